/- What each Go function computes, and that the machine does so: printed by a program of this session (avgen.py). -/
import Derived.Test.YtoaknaceaghclaaGreatV1
namespace Go.Proofs.YtoaknaceaghclaaGreat.V
open Go Go.Av Go.Proofs Go.Proofs.Tryz
set_option linter.unusedVariables false
set_option maxRecDepth 100000
/-! ### spec_YardOk: function 32 -/
def spec_YardOk.h0T (v11 : Int) (a0 : S48) (v10 : List Int) : List (Nat × AV) := [(1, .ptr 64 0), (3, .t (.c (.h 4544))), (4, .t (.c (.p true (iI v11))))]
def spec_YardOk.h0H (v11 : Int) (a0 : S48) (v10 : List Int) : List (Nat × Content) := [(64, .box 48 [.p false (iI a0.f0.f0.f0), .p false (iI a0.f0.f0.f1), .p false (.sc (.string a0.f0.f0.f2)), .p false (iI a0.f0.f1), .p false (iI a0.f0.f2), .p false (iI a0.f0.f3), .p false (iI a0.f0.f4), .p false (R 4 e69 z69 a0.f1), .p false (iI a0.f2.f0), .p false (iI a0.f2.f1), .p false (R 1 (eI .i64) 0 a0.f2.f2), .p false (iI a0.f3), .p false (.sc (.bool a0.f4)), .p false (iI a0.f5.f0), .p false (iI a0.f5.f1), .p false (R 1 e72 z72 a0.f5.f2), .p false (R 3 e74 z74 a0.f6), .p false (R 1 (eI .i64) 0 a0.f7)]), (4544, .row 3 1 v10.length (fun j => (eI .i64) (v10.getD j 0)) true)]
def spec_YardOk.x0T (a0 : S48) (y12 : (List Int)) : List (Nat × AV) := [(1, .ptr 64 0), (3, .t (.c (.h 4544)))]
def spec_YardOk.x0H (a0 : S48) (y12 : (List Int)) : List (Nat × Content) := [(64, .box 48 [.p false (iI a0.f0.f0.f0), .p false (iI a0.f0.f0.f1), .p false (.sc (.string a0.f0.f0.f2)), .p false (iI a0.f0.f1), .p false (iI a0.f0.f2), .p false (iI a0.f0.f3), .p false (iI a0.f0.f4), .p false (R 4 e69 z69 a0.f1), .p false (iI a0.f2.f0), .p false (iI a0.f2.f1), .p false (R 1 (eI .i64) 0 a0.f2.f2), .p false (iI a0.f3), .p false (.sc (.bool a0.f4)), .p false (iI a0.f5.f0), .p false (iI a0.f5.f1), .p false (R 1 e72 z72 a0.f5.f2), .p false (R 3 e74 z74 a0.f6), .p false (R 1 (eI .i64) 0 a0.f7)]), (4544, .row 3 1 y12.length (fun j => (eI .i64) (y12.getD j 0)) true)]
def spec_YardOk.l0 : Nat → S48 → List Int → Int → Option (List Int)
  | 0, _, _, _ => none
  | kq + 1, a0, v10, v11 => if v11 < (a0.f5.f2.length : Int) then (if 0 ≤ v11 then (if 0 < (((rdD z72 a0.f5.f2 v11).f0).length : Int) then (if (v10.length + 1) * 8 ≤ 140737488355328 then (spec_YardOk.l0 kq a0 (v10 ++ [(rdD 0 ((rdD z72 a0.f5.f2 v11).f0) 0)]) (w64 (v11 + 1))) else none) else none) else none) else (some v10)
def spec_YardOk.h1T (v21 : Int) (a0 : S48) (y12 : (List Int)) (t13 : List Int) (v20 : List Int) : List (Nat × AV) := [(1, .ptr 64 0), (3, .t (.c (.h 4544))), (5, .t (.c (.h 5952))), (6, .t (.c (.h 6016))), (7, .t (.c (.p true (iI v21))))]
def spec_YardOk.h1H (v21 : Int) (a0 : S48) (y12 : (List Int)) (t13 : List Int) (v20 : List Int) : List (Nat × Content) := [(64, .box 48 [.p false (iI a0.f0.f0.f0), .p false (iI a0.f0.f0.f1), .p false (.sc (.string a0.f0.f0.f2)), .p false (iI a0.f0.f1), .p false (iI a0.f0.f2), .p false (iI a0.f0.f3), .p false (iI a0.f0.f4), .p false (R 4 e69 z69 a0.f1), .p false (iI a0.f2.f0), .p false (iI a0.f2.f1), .p false (R 1 (eI .i64) 0 a0.f2.f2), .p false (iI a0.f3), .p false (.sc (.bool a0.f4)), .p false (iI a0.f5.f0), .p false (iI a0.f5.f1), .p false (R 1 e72 z72 a0.f5.f2), .p false (R 3 e74 z74 a0.f6), .p false (R 1 (eI .i64) 0 a0.f7)]), (4544, .row 3 1 y12.length (fun j => (eI .i64) (y12.getD j 0)) true), (5952, .row 3 1 t13.length (fun j => (eI .i64) (t13.getD j 0)) true), (6016, .row 3 1 v20.length (fun j => (eI .i64) (v20.getD j 0)) true)]
def spec_YardOk.x1T (a0 : S48) (y12 : (List Int)) (t13 : List Int) (y23 : (List Int)) : List (Nat × AV) := [(1, .ptr 64 0), (3, .t (.c (.h 4544))), (5, .t (.c (.h 5952))), (6, .t (.c (.h 6016)))]
def spec_YardOk.x1H (a0 : S48) (y12 : (List Int)) (t13 : List Int) (y23 : (List Int)) : List (Nat × Content) := [(64, .box 48 [.p false (iI a0.f0.f0.f0), .p false (iI a0.f0.f0.f1), .p false (.sc (.string a0.f0.f0.f2)), .p false (iI a0.f0.f1), .p false (iI a0.f0.f2), .p false (iI a0.f0.f3), .p false (iI a0.f0.f4), .p false (R 4 e69 z69 a0.f1), .p false (iI a0.f2.f0), .p false (iI a0.f2.f1), .p false (R 1 (eI .i64) 0 a0.f2.f2), .p false (iI a0.f3), .p false (.sc (.bool a0.f4)), .p false (iI a0.f5.f0), .p false (iI a0.f5.f1), .p false (R 1 e72 z72 a0.f5.f2), .p false (R 3 e74 z74 a0.f6), .p false (R 1 (eI .i64) 0 a0.f7)]), (4544, .row 3 1 y12.length (fun j => (eI .i64) (y12.getD j 0)) true), (5952, .row 3 1 t13.length (fun j => (eI .i64) (t13.getD j 0)) true), (6016, .row 3 1 y23.length (fun j => (eI .i64) (y23.getD j 0)) true)]
def spec_YardOk.l1 : Nat → S48 → List Int → List Int → Int → Option (List Int)
  | 0, _, _, _, _ => none
  | kq + 1, a0, t13, v20, v21 => if v21 < (a0.f0.f0.f2.size : Int) then ((spec_l03Has.f kq t13 v21).bind fun t22 => if t22 = true then (spec_YardOk.l1 kq a0 t13 v20 (w64 (v21 + 1))) else (if (v20.length + 1) * 8 ≤ 140737488355328 then (spec_YardOk.l1 kq a0 t13 (v20 ++ [v21]) (w64 (v21 + 1))) else none)) else (some v20)
def spec_YardOk.h3T (v30 : Int) (v35 : Bool) (v34 : Int) (a0 : S48) (y12 : (List Int)) (t13 : List Int) (y23 : (List Int)) : List (Nat × AV) := [(1, .ptr 64 0), (3, .t (.c (.h 4544))), (5, .t (.c (.h 5952))), (6, .t (.c (.h 6016))), (8, .t (.c (.p true (iI v30)))), (9, .t (.c (.p true (.sc (.bool v35))))), (10, .t (.c (.p true (iI v34))))]
def spec_YardOk.h3H (v30 : Int) (v35 : Bool) (v34 : Int) (a0 : S48) (y12 : (List Int)) (t13 : List Int) (y23 : (List Int)) : List (Nat × Content) := [(64, .box 48 [.p false (iI a0.f0.f0.f0), .p false (iI a0.f0.f0.f1), .p false (.sc (.string a0.f0.f0.f2)), .p false (iI a0.f0.f1), .p false (iI a0.f0.f2), .p false (iI a0.f0.f3), .p false (iI a0.f0.f4), .p false (R 4 e69 z69 a0.f1), .p false (iI a0.f2.f0), .p false (iI a0.f2.f1), .p false (R 1 (eI .i64) 0 a0.f2.f2), .p false (iI a0.f3), .p false (.sc (.bool a0.f4)), .p false (iI a0.f5.f0), .p false (iI a0.f5.f1), .p false (R 1 e72 z72 a0.f5.f2), .p false (R 3 e74 z74 a0.f6), .p false (R 1 (eI .i64) 0 a0.f7)]), (4544, .row 3 1 y12.length (fun j => (eI .i64) (y12.getD j 0)) true), (5952, .row 3 1 t13.length (fun j => (eI .i64) (t13.getD j 0)) true), (6016, .row 3 1 y23.length (fun j => (eI .i64) (y23.getD j 0)) true)]
def spec_YardOk.x3T (v30 : Int) (y36 : Bool) (a0 : S48) (y12 : (List Int)) (t13 : List Int) (y23 : (List Int)) : List (Nat × AV) := [(1, .ptr 64 0), (3, .t (.c (.h 4544))), (5, .t (.c (.h 5952))), (6, .t (.c (.h 6016))), (8, .t (.c (.p true (iI v30)))), (9, .t (.c (.p true (.sc (.bool y36)))))]
def spec_YardOk.x3H (v30 : Int) (y36 : Bool) (a0 : S48) (y12 : (List Int)) (t13 : List Int) (y23 : (List Int)) : List (Nat × Content) := [(64, .box 48 [.p false (iI a0.f0.f0.f0), .p false (iI a0.f0.f0.f1), .p false (.sc (.string a0.f0.f0.f2)), .p false (iI a0.f0.f1), .p false (iI a0.f0.f2), .p false (iI a0.f0.f3), .p false (iI a0.f0.f4), .p false (R 4 e69 z69 a0.f1), .p false (iI a0.f2.f0), .p false (iI a0.f2.f1), .p false (R 1 (eI .i64) 0 a0.f2.f2), .p false (iI a0.f3), .p false (.sc (.bool a0.f4)), .p false (iI a0.f5.f0), .p false (iI a0.f5.f1), .p false (R 1 e72 z72 a0.f5.f2), .p false (R 3 e74 z74 a0.f6), .p false (R 1 (eI .i64) 0 a0.f7)]), (4544, .row 3 1 y12.length (fun j => (eI .i64) (y12.getD j 0)) true), (5952, .row 3 1 t13.length (fun j => (eI .i64) (t13.getD j 0)) true), (6016, .row 3 1 y23.length (fun j => (eI .i64) (y23.getD j 0)) true)]
def spec_YardOk.l3 : Nat → S48 → Int → Int → Bool → Option Bool
  | 0, _, _, _, _ => none
  | kq + 1, a0, v30, v34, v35 => if v34 < (a0.f6.length : Int) then (if 0 ≤ v34 then (if 0 ≤ v30 then (if (rdD z74 a0.f6 v34).f0 = (rdD z69 a0.f1 v30).f0 then (spec_YardOk.l3 kq a0 v30 (w64 (v34 + 1)) true) else (spec_YardOk.l3 kq a0 v30 (w64 (v34 + 1)) v35)) else none) else none) else (some v35)
def spec_YardOk.h2T (v30 : Int) (a0 : S48) (y12 : (List Int)) (t13 : List Int) (y23 : (List Int)) : List (Nat × AV) := [(1, .ptr 64 0), (3, .t (.c (.h 4544))), (5, .t (.c (.h 5952))), (6, .t (.c (.h 6016))), (8, .t (.c (.p true (iI v30))))]
def spec_YardOk.h2H (v30 : Int) (a0 : S48) (y12 : (List Int)) (t13 : List Int) (y23 : (List Int)) : List (Nat × Content) := [(64, .box 48 [.p false (iI a0.f0.f0.f0), .p false (iI a0.f0.f0.f1), .p false (.sc (.string a0.f0.f0.f2)), .p false (iI a0.f0.f1), .p false (iI a0.f0.f2), .p false (iI a0.f0.f3), .p false (iI a0.f0.f4), .p false (R 4 e69 z69 a0.f1), .p false (iI a0.f2.f0), .p false (iI a0.f2.f1), .p false (R 1 (eI .i64) 0 a0.f2.f2), .p false (iI a0.f3), .p false (.sc (.bool a0.f4)), .p false (iI a0.f5.f0), .p false (iI a0.f5.f1), .p false (R 1 e72 z72 a0.f5.f2), .p false (R 3 e74 z74 a0.f6), .p false (R 1 (eI .i64) 0 a0.f7)]), (4544, .row 3 1 y12.length (fun j => (eI .i64) (y12.getD j 0)) true), (5952, .row 3 1 t13.length (fun j => (eI .i64) (t13.getD j 0)) true), (6016, .row 3 1 y23.length (fun j => (eI .i64) (y23.getD j 0)) true)]
def spec_YardOk.l2 : Nat → S48 → List Int → (List Int) → (List Int) → Int → Option Bool
  | 0, _, _, _, _, _ => none
  | kq + 1, a0, t13, y23, y12, v30 => if v30 < (a0.f1.length : Int) then ((spec_YardOk.l3 kq a0 v30 0 false).bind fun y36 => (if y36 = true then (spec_YardOk.l2 kq a0 t13 y23 y12 (w64 (v30 + 1))) else (if 0 ≤ v30 then ((spec_l03Has.f kq t13 ((rdD z69 a0.f1 v30).f1)).bind fun t37 => if t37 = true then (some false) else ((spec_l03Has.f kq t13 ((rdD z69 a0.f1 v30).f2)).bind fun t38 => if t38 = true then (some false) else (spec_YardOk.l2 kq a0 t13 y23 y12 (w64 (v30 + 1))))) else none))) else ((spec_Walled.f kq a0.f0.f0 y23).bind fun t39 => (spec_PlanFault.f kq t39 y12 a0.f7 a0.f5).bind fun t40 => some (decide (t40 = 0)))
def spec_YardOk.f (k : Nat) (a0 : S48) : Option Bool := (spec_SetupOk.f k a0.f0).bind fun t1 => if t1 = true then ((spec_RobotsOk.f k a0.f0.f0 a0.f1).bind fun t2 => if t2 = true then ((spec_WindowOk.f k a0.f2).bind fun t3 => if t3 = true then (if a0.f2.f0 = a0.f0.f2 then (if a0.f2.f1 = a0.f0.f3 then ((spec_l01In.f a0.f3 0 1000000000).bind fun t4 => if t4 = true then ((spec_JobsOk.f k a0).bind fun t5 => if t5 = true then ((spec_l10Cells.f k a0.f0.f0 a0.f7).bind fun t6 => if t6 = true then (if a0.f4 = true then ((spec_YardOk.l0 k a0 ([] : List Int) 0).bind fun y12 => ((spec_Footprint.f k a0).bind fun t13 => (spec_YardOk.l1 k a0 t13 ([] : List Int) 0).bind fun y23 => (spec_YardOk.l2 k a0 t13 y23 y12 0))) else (some true)) else (some false)) else (some false)) else (some false)) else (some false)) else (some false)) else (some false)) else (some false)) else (some false)
theorem spec_YardOk.go : Callable prog 32 := ⟨_, func32, by kernel_rfl, rfl⟩
theorem spec_YardOk.ok (k : Nat) (a0 : S48) (r : Bool) (h : spec_YardOk.f k a0 = some r) : VCalls prog 32 [.agg (e48 a0)] [.c (.p (.sc (.bool r)))] := by
  unfold spec_YardOk.f at h
  refine VCalls.of (fn := f32) (N := 173) func32 rfl rfl (fun w0 => ?_)
  obtain ⟨t1, g1, h⟩ := bindN h
  let C1 := mkCon (spec_SetupOk.ok k a0.f0 t1 g1) spec_SetupOk.go
  by_cases c2 : t1 = true
  · replace h := ip c2 h
    obtain ⟨t2, g3, h⟩ := bindN h
    let C3 := mkCon (spec_RobotsOk.ok k a0.f0.f0 a0.f1 t2 g3) spec_RobotsOk.go
    by_cases c4 : t2 = true
    · replace h := ip c4 h
      obtain ⟨t3, g5, h⟩ := bindN h
      let C5 := mkCon (spec_WindowOk.ok k a0.f2 t3 g5) spec_WindowOk.go
      by_cases c6 : t3 = true
      · replace h := ip c6 h
        by_cases c7 : a0.f2.f0 = a0.f0.f2
        · replace h := ip c7 h
          by_cases c8 : a0.f2.f1 = a0.f0.f3
          · replace h := ip c8 h
            obtain ⟨t4, g9, h⟩ := bindN h
            let C9 := mkCon (spec_l01In.ok a0.f3 0 1000000000 t4 g9) spec_l01In.go
            by_cases c10 : t4 = true
            · replace h := ip c10 h
              obtain ⟨t5, g11, h⟩ := bindN h
              let C11 := mkCon (spec_JobsOk.ok k a0 t5 g11) spec_JobsOk.go
              by_cases c12 : t5 = true
              · replace h := ip c12 h
                obtain ⟨t6, g13, h⟩ := bindN h
                let C13 := mkCon (spec_l10Cells.ok k a0.f0.f0 a0.f7 t6 g13) spec_l10Cells.go
                by_cases c14 : t6 = true
                · replace h := ip c14 h
                  by_cases c15 : a0.f4 = true
                  · replace h := ip c15 h
                    have H0 : ∀ (kq : Nat) (v10 : List Int) (v11 : Int) (x : (List Int)), spec_YardOk.l0 kq a0 v10 v11 = some x → AG prog 32 173 [.c (.p (.sc (.bool r)))] w0 (exitStk (codeOf f32) 0) (mkFS (spec_YardOk.x0T a0 x) (spec_YardOk.x0H a0 x)) → AG prog 32 173 [.c (.p (.sc (.bool r)))] w0 (headStk (codeOf f32) 0) (mkFS (spec_YardOk.h0T v11 a0 v10) (spec_YardOk.h0H v11 a0 v10)) := by
                      intro kq
                      induction kq with
                      | zero => intro v10 v11 x h hx; cases h
                      | succ kq ih =>
                        intro v10 v11 x h hx
                        rw [spec_YardOk.l0] at h
                        by_cases c27 : v11 < (a0.f5.f2.length : Int)
                        · replace h := ip c27 h
                          obtain ⟨c28, h⟩ := ifN h
                          obtain ⟨c29, h⟩ := ifN h
                          obtain ⟨c30, h⟩ := ifN h
                          exact hd func32 [.b true, rowe 90 (eI .i64) 0 ([(rdD 0 ((rdD z72 a0.f5.f2 v11).f0) 0)]), .aft 91, orow 4544 (eI .i64) 0 (v10 ++ [(rdD 0 ((rdD z72 a0.f5.f2 v11).f0) 0)]), .fin] (oT c27 (o1 c28 (o1 c27 (o1 (by decide : (0 : Int) ≤ 0) (o1 c29 (o1 (GE.lit 1 (eI .i64) 0 [(rdD 0 ((rdD z72 a0.f5.f2 v11).f0) 0)] (by intro x; rfl)) (o1 c30 (o1 (GE.app (e := (eI .i64)) (d := 0) v10 ([(rdD 0 ((rdD z72 a0.f5.f2 v11).f0) 0)]) rfl (fun _ _ => CE.refl _) rfl) on)))))))) (ih (v10 ++ [(rdD 0 ((rdD z72 a0.f5.f2 v11).f0) 0)]) (w64 (v11 + 1)) _ h hx)
                        · replace h := iq c27 h
                          cases h
                          exact st func32 [.b false, .fin] (oF c27 on) hx
                    obtain ⟨y12, g84, h⟩ := bindN h
                    refine hd func32 [.call C1, .dec 15 false, .call C3, .dec 24 false, .call C5, .dec 30 false, .dec 39 false, .dec 48 false, .call C9, .dec 54 false, .call C11, .dec 59 false, .call C13, .b false, .b false, rowe 71 (eI .i64) 0 ([] : List Int), .fin] (oc C1 (o1 (bnf c2) (oc C3 (o1 (bnf c4) (oc C5 (o1 (bnf c6) (o1 (bnf (decide_eq_true c7)) (o1 (bnf (decide_eq_true c8)) (oc C9 (o1 (bnf c10) (oc C11 (o1 (bnf c12) (oc C13 (o1 (bnf c14) (o1 (bnf c15) (o1 (GE.lit 1 (eI .i64) 0 ([] : List Int) (by intro x; rfl)) on)))))))))))))))) (H0 k ([] : List Int) 0 _ g84 ?_)
                    obtain ⟨t13, g31, h⟩ := bindN h
                    let C31 := mkCon (spec_Footprint.ok k a0 t13 g31) spec_Footprint.go
                    have H1 : ∀ (kq : Nat) (v20 : List Int) (v21 : Int) (x : (List Int)), spec_YardOk.l1 kq a0 t13 v20 v21 = some x → AG prog 32 173 [.c (.p (.sc (.bool r)))] w0 (exitStk (codeOf f32) 1) (mkFS (spec_YardOk.x1T a0 y12 t13 x) (spec_YardOk.x1H a0 y12 t13 x)) → AG prog 32 173 [.c (.p (.sc (.bool r)))] w0 (headStk (codeOf f32) 1) (mkFS (spec_YardOk.h1T v21 a0 y12 t13 v20) (spec_YardOk.h1H v21 a0 y12 t13 v20)) := by
                      intro kq
                      induction kq with
                      | zero => intro v20 v21 x h hx; cases h
                      | succ kq ih =>
                        intro v20 v21 x h hx
                        rw [spec_YardOk.l1] at h
                        by_cases c43 : v21 < (a0.f0.f0.f2.size : Int)
                        · replace h := ip c43 h
                          obtain ⟨t22, g44, h⟩ := bindN h
                          let C44 := mkCon (spec_l03Has.ok kq t13 v21 t22 g44) spec_l03Has.go
                          by_cases c45 : t22 = true
                          · replace h := ip c45 h
                            exact hd func32 [.b true, .call C44, .b false, .fin] (oT c43 (oc C44 (o1 (bnf c45) on))) (ih v20 (w64 (v21 + 1)) _ h hx)
                          · replace h := iq c45 h
                            obtain ⟨c46, h⟩ := ifN h
                            exact hd func32 [.b true, .call C44, .b true, rowe 110 (eI .i64) 0 ([v21]), .aft 111, orow 6016 (eI .i64) 0 (v20 ++ [v21]), .fin] (oT c43 (oc C44 (oN c45 (o1 (GE.lit 1 (eI .i64) 0 [v21] (by intro x; rfl)) (o1 c46 (o1 (GE.app (e := (eI .i64)) (d := 0) v20 ([v21]) rfl (fun _ _ => CE.refl _) rfl) on)))))) (ih (v20 ++ [v21]) (w64 (v21 + 1)) _ h hx)
                        · replace h := iq c43 h
                          cases h
                          exact st func32 [.b false, .fin] (oF c43 on) hx
                    obtain ⟨y23, g83, h⟩ := bindN h
                    refine hd func32 [.call C31, rowe 94 (eI .i64) 0 ([] : List Int), .fin] (oc C31 (o1 (GE.lit 1 (eI .i64) 0 ([] : List Int) (by intro x; rfl)) on)) (H1 k ([] : List Int) 0 _ g83 ?_)
                    have H2 : ∀ (kq : Nat) (v30 : Int), spec_YardOk.l2 kq a0 t13 y23 y12 v30 = some r → AG prog 32 173 [.c (.p (.sc (.bool r)))] w0 (headStk (codeOf f32) 2) (mkFS (spec_YardOk.h2T v30 a0 y12 t13 y23) (spec_YardOk.h2H v30 a0 y12 t13 y23)) := by
                      intro kq
                      induction kq with
                      | zero => intro v30 h; cases h
                      | succ kq ih =>
                        intro v30 h
                        rw [spec_YardOk.l2] at h
                        by_cases c59 : v30 < (a0.f1.length : Int)
                        · replace h := ip c59 h
                          have H3 : ∀ (kq : Nat) (v34 : Int) (v35 : Bool) (x : Bool), spec_YardOk.l3 kq a0 v30 v34 v35 = some x → AG prog 32 173 [.c (.p (.sc (.bool r)))] w0 (exitStk (codeOf f32) 3) (mkFS (spec_YardOk.x3T v30 x a0 y12 t13 y23) (spec_YardOk.x3H v30 x a0 y12 t13 y23)) → AG prog 32 173 [.c (.p (.sc (.bool r)))] w0 (headStk (codeOf f32) 3) (mkFS (spec_YardOk.h3T v30 v35 v34 a0 y12 t13 y23) (spec_YardOk.h3H v30 v35 v34 a0 y12 t13 y23)) := by
                            intro kq
                            induction kq with
                            | zero => intro v34 v35 x h hx; cases h
                            | succ kq ih =>
                              intro v34 v35 x h hx
                              rw [spec_YardOk.l3] at h
                              by_cases c70 : v34 < (a0.f6.length : Int)
                              · replace h := ip c70 h
                                obtain ⟨c71, h⟩ := ifN h
                                obtain ⟨c72, h⟩ := ifN h
                                by_cases c73 : (rdD z74 a0.f6 v34).f0 = (rdD z69 a0.f1 v30).f0
                                · replace h := ip c73 h
                                  exact hd func32 [.b true, .b true, .fin] (oT c70 (o1 c71 (o1 c70 (o1 c72 (o1 c59 (oT c73 on)))))) (ih (w64 (v34 + 1)) true _ h hx)
                                · replace h := iq c73 h
                                  exact hd func32 [.b true, .b false, .fin] (oT c70 (o1 c71 (o1 c70 (o1 c72 (o1 c59 (oF c73 on)))))) (ih (w64 (v34 + 1)) v35 _ h hx)
                              · replace h := iq c70 h
                                cases h
                                exact st func32 [.b false, .fin] (oF c70 on) hx
                          obtain ⟨y36, g80, h⟩ := bindN h
                          refine hd func32 [.b true, .fin] (oT c59 on) (H3 kq 0 false _ g80 ?_)
                          by_cases c74 : y36 = true
                          · replace h := ip c74 h
                            exact hd func32 [.dec 141 false, .b false, .fin] (o1 (bnf c74) (o1 (rfl : false = false) on)) (ih (w64 (v30 + 1)) h)
                          · replace h := iq c74 h
                            obtain ⟨c75, h⟩ := ifN h
                            obtain ⟨t37, g76, h⟩ := bindN h
                            let C76 := mkCon (spec_l03Has.ok kq t13 ((rdD z69 a0.f1 v30).f1) t37 g76) spec_l03Has.go
                            by_cases c77 : t37 = true
                            · replace h := ip c77 h
                              cases h
                              exact rt func32 [.dec 141 true, .call C76, .dec 150 true, .b true, .fin] (oN c74 (o1 c75 (o1 c59 (oc C76 (o1 c77 (oR on))))))
                            · replace h := iq c77 h
                              obtain ⟨t38, g78, h⟩ := bindN h
                              let C78 := mkCon (spec_l03Has.ok kq t13 ((rdD z69 a0.f1 v30).f2) t38 g78) spec_l03Has.go
                              by_cases c79 : t38 = true
                              · replace h := ip c79 h
                                cases h
                                exact rt func32 [.dec 141 true, .call C76, .dec 150 false, .call C78, .b true, .fin] (oN c74 (o1 c75 (o1 c59 (oc C76 (o1 (eqf c77) (o1 c75 (o1 c59 (oc C78 (o1 c79 on)))))))))
                              · replace h := iq c79 h
                                exact hd func32 [.dec 141 true, .call C76, .dec 150 false, .call C78, .b false, .fin] (oN c74 (o1 c75 (o1 c59 (oc C76 (o1 (eqf c77) (o1 c75 (o1 c59 (oc C78 (o1 (eqf c79) on))))))))) (ih (w64 (v30 + 1)) h)
                        · replace h := iq c59 h
                          obtain ⟨t39, g81, h⟩ := bindN h
                          let C81 := mkCon (spec_Walled.ok kq a0.f0.f0 y23 t39 g81) spec_Walled.go
                          obtain ⟨t40, g82, h⟩ := bindN h
                          let C82 := mkCon (spec_PlanFault.ok kq t39 y12 a0.f7 a0.f5 t40 g82) spec_PlanFault.go
                          cases h
                          exact rt func32 [.b false, .fin, .call C81, .call C82, .fin] (oF c59 (oc C81 (oc C82 on)))
                    exact hd func32 [.fin] on (H2 k 0 h)
                  · replace h := iq c15 h
                    cases h
                    exact rt func32 [.call C1, .dec 15 false, .call C3, .dec 24 false, .call C5, .dec 30 false, .dec 39 false, .dec 48 false, .call C9, .dec 54 false, .call C11, .dec 59 false, .call C13, .b false, .b true, .fin] (oc C1 (o1 (bnf c2) (oc C3 (o1 (bnf c4) (oc C5 (o1 (bnf c6) (o1 (bnf (decide_eq_true c7)) (o1 (bnf (decide_eq_true c8)) (oc C9 (o1 (bnf c10) (oc C11 (o1 (bnf c12) (oc C13 (o1 (bnf c14) (oN c15 on)))))))))))))))
                · replace h := iq c14 h
                  cases h
                  exact rt func32 [.call C1, .dec 15 false, .call C3, .dec 24 false, .call C5, .dec 30 false, .dec 39 false, .dec 48 false, .call C9, .dec 54 false, .call C11, .dec 59 false, .call C13, .b true, .fin] (oc C1 (o1 (bnf c2) (oc C3 (o1 (bnf c4) (oc C5 (o1 (bnf c6) (o1 (bnf (decide_eq_true c7)) (o1 (bnf (decide_eq_true c8)) (oc C9 (o1 (bnf c10) (oc C11 (o1 (bnf c12) (oc C13 (oN c14 on))))))))))))))
              · replace h := iq c12 h
                cases h
                exact rt func32 [.call C1, .dec 15 false, .call C3, .dec 24 false, .call C5, .dec 30 false, .dec 39 false, .dec 48 false, .call C9, .dec 54 false, .call C11, .dec 59 true, .b true, .fin] (oc C1 (o1 (bnf c2) (oc C3 (o1 (bnf c4) (oc C5 (o1 (bnf c6) (o1 (bnf (decide_eq_true c7)) (o1 (bnf (decide_eq_true c8)) (oc C9 (o1 (bnf c10) (oc C11 (oN c12 (oR on)))))))))))))
            · replace h := iq c10 h
              cases h
              exact rt func32 [.call C1, .dec 15 false, .call C3, .dec 24 false, .call C5, .dec 30 false, .dec 39 false, .dec 48 false, .call C9, .dec 54 true, .b true, .fin] (oc C1 (o1 (bnf c2) (oc C3 (o1 (bnf c4) (oc C5 (o1 (bnf c6) (o1 (bnf (decide_eq_true c7)) (o1 (bnf (decide_eq_true c8)) (oc C9 (oN c10 (oR on)))))))))))
          · replace h := iq c8 h
            cases h
            exact rt func32 [.call C1, .dec 15 false, .call C3, .dec 24 false, .call C5, .dec 30 false, .dec 39 false, .dec 48 true, .b true, .fin] (oc C1 (o1 (bnf c2) (oc C3 (o1 (bnf c4) (oc C5 (o1 (bnf c6) (o1 (bnf (decide_eq_true c7)) (o1 (bnt (decide_eq_false c8)) (oR on)))))))))
        · replace h := iq c7 h
          cases h
          exact rt func32 [.call C1, .dec 15 false, .call C3, .dec 24 false, .call C5, .dec 30 false, .dec 39 true, .b true, .fin] (oc C1 (o1 (bnf c2) (oc C3 (o1 (bnf c4) (oc C5 (o1 (bnf c6) (o1 (bnt (decide_eq_false c7)) (oR on))))))))
      · replace h := iq c6 h
        cases h
        exact rt func32 [.call C1, .dec 15 false, .call C3, .dec 24 false, .call C5, .dec 30 true, .b true, .fin] (oc C1 (o1 (bnf c2) (oc C3 (o1 (bnf c4) (oc C5 (oN c6 (oR on)))))))
    · replace h := iq c4 h
      cases h
      exact rt func32 [.call C1, .dec 15 false, .call C3, .dec 24 true, .b true, .fin] (oc C1 (o1 (bnf c2) (oc C3 (oN c4 (oR on)))))
  · replace h := iq c2 h
    cases h
    exact rt func32 [.call C1, .dec 15 true, .b true, .fin] (oc C1 (oN c2 (oR on)))

/-! ### spec_l31Flag: function 33 -/
def spec_l31Flag.f (a0 : Bool) : Option Int := if a0 = true then (some 1) else (some 0)
theorem spec_l31Flag.go : Callable prog 33 := ⟨_, func33, by kernel_rfl, rfl⟩
theorem spec_l31Flag.ok (a0 : Bool) (r : Int) (h : spec_l31Flag.f a0 = some r) : VCalls prog 33 [.c (.sc (.bool a0))] [.c (.p (iI r))] := by
  unfold spec_l31Flag.f at h
  refine VCalls.of (fn := f33) (N := 4) func33 rfl rfl (fun w0 => ?_)
  by_cases c1 : a0 = true
  · replace h := ip c1 h
    cases h
    exact rt func33 [.b true, .fin] (o1 c1 on)
  · replace h := iq c1 h
    cases h
    exact rt func33 [.b false, .fin] (o1 (eqf c1) on)

/-! ### spec_YardNums: function 8 -/
def spec_YardNums.h0T (v6 : Int) (a0 : S48) (v5 : List Int) : List (Nat × AV) := [(1, .ptr 64 0), (3, .t (.c (.h 640))), (4, .ptr 256 0), (5, .t (.c (.p true (iI v6))))]
def spec_YardNums.h0H (v6 : Int) (a0 : S48) (v5 : List Int) : List (Nat × Content) := [(64, .box 48 [.p false (iI a0.f0.f0.f0), .p false (iI a0.f0.f0.f1), .p false (.sc (.string a0.f0.f0.f2)), .p false (iI a0.f0.f1), .p false (iI a0.f0.f2), .p false (iI a0.f0.f3), .p false (iI a0.f0.f4), .p false (R 4 e69 z69 a0.f1), .p false (iI a0.f2.f0), .p false (iI a0.f2.f1), .p false (R 1 (eI .i64) 0 a0.f2.f2), .p false (iI a0.f3), .p false (.sc (.bool a0.f4)), .p false (iI a0.f5.f0), .p false (iI a0.f5.f1), .p false (R 1 e72 z72 a0.f5.f2), .p false (R 3 e74 z74 a0.f6), .p false (R 1 (eI .i64) 0 a0.f7)]), (256, .box 38 [.p false (iI a0.f0.f0.f0), .p false (iI a0.f0.f0.f1), .p false (.sc (.string a0.f0.f0.f2))]), (640, .row 3 1 v5.length (fun j => (eI .i64) (v5.getD j 0)) true)]
def spec_YardNums.x0T (a0 : S48) (y7 : (List Int)) : List (Nat × AV) := [(1, .ptr 64 0), (3, .t (.c (.h 640)))]
def spec_YardNums.x0H (a0 : S48) (y7 : (List Int)) : List (Nat × Content) := [(64, .box 48 [.p false (iI a0.f0.f0.f0), .p false (iI a0.f0.f0.f1), .p false (.sc (.string a0.f0.f0.f2)), .p false (iI a0.f0.f1), .p false (iI a0.f0.f2), .p false (iI a0.f0.f3), .p false (iI a0.f0.f4), .p false (R 4 e69 z69 a0.f1), .p false (iI a0.f2.f0), .p false (iI a0.f2.f1), .p false (R 1 (eI .i64) 0 a0.f2.f2), .p false (iI a0.f3), .p false (.sc (.bool a0.f4)), .p false (iI a0.f5.f0), .p false (iI a0.f5.f1), .p false (R 1 e72 z72 a0.f5.f2), .p false (R 3 e74 z74 a0.f6), .p false (R 1 (eI .i64) 0 a0.f7)]), (640, .row 3 1 y7.length (fun j => (eI .i64) (y7.getD j 0)) true)]
def spec_YardNums.l0 : Nat → S48 → List Int → Int → Option (List Int)
  | 0, _, _, _ => none
  | kq + 1, a0, v5, v6 => if v6 < (a0.f0.f0.f2.size : Int) then (if 0 ≤ v6 then (if (v5.length + 1) * 8 ≤ 140737488355328 then (spec_YardNums.l0 kq a0 (v5 ++ [(w64 (bt a0.f0.f0.f2 v6))]) (w64 (v6 + 1))) else none) else none) else (some v5)
def spec_YardNums.h1T (v15 : Int) (a0 : S48) (v14 : List Int) : List (Nat × AV) := [(1, .ptr 64 0), (3, .t (.c (.h 640))), (6, .t (.c (.p true (iI v15))))]
def spec_YardNums.h1H (v15 : Int) (a0 : S48) (v14 : List Int) : List (Nat × Content) := [(64, .box 48 [.p false (iI a0.f0.f0.f0), .p false (iI a0.f0.f0.f1), .p false (.sc (.string a0.f0.f0.f2)), .p false (iI a0.f0.f1), .p false (iI a0.f0.f2), .p false (iI a0.f0.f3), .p false (iI a0.f0.f4), .p false (R 4 e69 z69 a0.f1), .p false (iI a0.f2.f0), .p false (iI a0.f2.f1), .p false (R 1 (eI .i64) 0 a0.f2.f2), .p false (iI a0.f3), .p false (.sc (.bool a0.f4)), .p false (iI a0.f5.f0), .p false (iI a0.f5.f1), .p false (R 1 e72 z72 a0.f5.f2), .p false (R 3 e74 z74 a0.f6), .p false (R 1 (eI .i64) 0 a0.f7)]), (640, .row 3 1 v14.length (fun j => (eI .i64) (v14.getD j 0)) true)]
def spec_YardNums.x1T (a0 : S48) (y17 : (List Int)) : List (Nat × AV) := [(1, .ptr 64 0), (3, .t (.c (.h 640)))]
def spec_YardNums.x1H (a0 : S48) (y17 : (List Int)) : List (Nat × Content) := [(64, .box 48 [.p false (iI a0.f0.f0.f0), .p false (iI a0.f0.f0.f1), .p false (.sc (.string a0.f0.f0.f2)), .p false (iI a0.f0.f1), .p false (iI a0.f0.f2), .p false (iI a0.f0.f3), .p false (iI a0.f0.f4), .p false (R 4 e69 z69 a0.f1), .p false (iI a0.f2.f0), .p false (iI a0.f2.f1), .p false (R 1 (eI .i64) 0 a0.f2.f2), .p false (iI a0.f3), .p false (.sc (.bool a0.f4)), .p false (iI a0.f5.f0), .p false (iI a0.f5.f1), .p false (R 1 e72 z72 a0.f5.f2), .p false (R 3 e74 z74 a0.f6), .p false (R 1 (eI .i64) 0 a0.f7)]), (640, .row 3 1 y17.length (fun j => (eI .i64) (y17.getD j 0)) true)]
def spec_YardNums.l1 : Nat → S48 → List Int → Int → Option (List Int)
  | 0, _, _, _ => none
  | kq + 1, a0, v14, v15 => if v15 < (a0.f1.length : Int) then (if 0 ≤ v15 then ((spec_l31Flag.f ((rdD z69 a0.f1 v15).f3)).bind fun t16 => if (v14.length + 4) * 8 ≤ 140737488355328 then (spec_YardNums.l1 kq a0 (v14 ++ [(rdD z69 a0.f1 v15).f0, (rdD z69 a0.f1 v15).f1, (rdD z69 a0.f1 v15).f2, t16]) (w64 (v15 + 1))) else none) else none) else (some v14)
def spec_YardNums.h2T (v23 : Int) (a0 : S48) (v22 : List Int) : List (Nat × AV) := [(1, .ptr 64 0), (3, .t (.c (.h 640))), (8, .t (.c (.p true (iI v23))))]
def spec_YardNums.h2H (v23 : Int) (a0 : S48) (v22 : List Int) : List (Nat × Content) := [(64, .box 48 [.p false (iI a0.f0.f0.f0), .p false (iI a0.f0.f0.f1), .p false (.sc (.string a0.f0.f0.f2)), .p false (iI a0.f0.f1), .p false (iI a0.f0.f2), .p false (iI a0.f0.f3), .p false (iI a0.f0.f4), .p false (R 4 e69 z69 a0.f1), .p false (iI a0.f2.f0), .p false (iI a0.f2.f1), .p false (R 1 (eI .i64) 0 a0.f2.f2), .p false (iI a0.f3), .p false (.sc (.bool a0.f4)), .p false (iI a0.f5.f0), .p false (iI a0.f5.f1), .p false (R 1 e72 z72 a0.f5.f2), .p false (R 3 e74 z74 a0.f6), .p false (R 1 (eI .i64) 0 a0.f7)]), (640, .row 3 1 v22.length (fun j => (eI .i64) (v22.getD j 0)) true)]
def spec_YardNums.x2T (a0 : S48) (y24 : (List Int)) : List (Nat × AV) := [(1, .ptr 64 0), (3, .t (.c (.h 640)))]
def spec_YardNums.x2H (a0 : S48) (y24 : (List Int)) : List (Nat × Content) := [(64, .box 48 [.p false (iI a0.f0.f0.f0), .p false (iI a0.f0.f0.f1), .p false (.sc (.string a0.f0.f0.f2)), .p false (iI a0.f0.f1), .p false (iI a0.f0.f2), .p false (iI a0.f0.f3), .p false (iI a0.f0.f4), .p false (R 4 e69 z69 a0.f1), .p false (iI a0.f2.f0), .p false (iI a0.f2.f1), .p false (R 1 (eI .i64) 0 a0.f2.f2), .p false (iI a0.f3), .p false (.sc (.bool a0.f4)), .p false (iI a0.f5.f0), .p false (iI a0.f5.f1), .p false (R 1 e72 z72 a0.f5.f2), .p false (R 3 e74 z74 a0.f6), .p false (R 1 (eI .i64) 0 a0.f7)]), (640, .row 3 1 y24.length (fun j => (eI .i64) (y24.getD j 0)) true)]
def spec_YardNums.l2 : Nat → S48 → List Int → Int → Option (List Int)
  | 0, _, _, _ => none
  | kq + 1, a0, v22, v23 => if v23 < (a0.f5.f2.length : Int) then (if 0 ≤ v23 then (if (v22.length + ((rdD z72 a0.f5.f2 v23).f0).length) * 8 ≤ 140737488355328 then (spec_YardNums.l2 kq a0 (v22 ++ (rdD z72 a0.f5.f2 v23).f0) (w64 (v23 + 1))) else none) else none) else (some v22)
def spec_YardNums.h3T (v29 : Int) (a0 : S48) (v28 : List Int) : List (Nat × AV) := [(1, .ptr 64 0), (3, .t (.c (.h 640))), (9, .t (.c (.p true (iI v29))))]
def spec_YardNums.h3H (v29 : Int) (a0 : S48) (v28 : List Int) : List (Nat × Content) := [(64, .box 48 [.p false (iI a0.f0.f0.f0), .p false (iI a0.f0.f0.f1), .p false (.sc (.string a0.f0.f0.f2)), .p false (iI a0.f0.f1), .p false (iI a0.f0.f2), .p false (iI a0.f0.f3), .p false (iI a0.f0.f4), .p false (R 4 e69 z69 a0.f1), .p false (iI a0.f2.f0), .p false (iI a0.f2.f1), .p false (R 1 (eI .i64) 0 a0.f2.f2), .p false (iI a0.f3), .p false (.sc (.bool a0.f4)), .p false (iI a0.f5.f0), .p false (iI a0.f5.f1), .p false (R 1 e72 z72 a0.f5.f2), .p false (R 3 e74 z74 a0.f6), .p false (R 1 (eI .i64) 0 a0.f7)]), (640, .row 3 1 v28.length (fun j => (eI .i64) (v28.getD j 0)) true)]
def spec_YardNums.l3 : Nat → S48 → List Int → Int → Option (List Int)
  | 0, _, _, _ => none
  | kq + 1, a0, v28, v29 => if v29 < (a0.f6.length : Int) then (if 0 ≤ v29 then ((spec_l31Flag.f ((rdD z74 a0.f6 v29).f2)).bind fun t30 => if (v28.length + 3) * 8 ≤ 140737488355328 then (spec_YardNums.l3 kq a0 (v28 ++ [(rdD z74 a0.f6 v29).f0, (rdD z74 a0.f6 v29).f1, t30]) (w64 (v29 + 1))) else none) else none) else (if (v28.length + 1) * 8 ≤ 140737488355328 then (if ((v28 ++ [(a0.f7.length : Int)]).length + a0.f7.length) * 8 ≤ 140737488355328 then (some ((v28 ++ [(a0.f7.length : Int)]) ++ a0.f7)) else none) else none)
def spec_YardNums.f (k : Nat) (a0 : S48) : Option (List Int) := (spec_YardOk.f k a0).bind fun t1 => if t1 = true then (if (([] : List Int).length + 2) * 8 ≤ 140737488355328 then ((spec_YardNums.l0 k a0 (([] : List Int) ++ [a0.f0.f0.f0, a0.f0.f0.f1]) 0).bind fun y7 => (if (y7.length + 5) * 8 ≤ 140737488355328 then ((spec_YardNums.l1 k a0 (y7 ++ [a0.f0.f1, a0.f0.f2, a0.f0.f3, a0.f0.f4, (a0.f1.length : Int)]) 0).bind fun y17 => (if (y17.length + a0.f2.f2.length) * 8 ≤ 140737488355328 then ((spec_l31Flag.f a0.f4).bind fun t18 => if ((y17 ++ a0.f2.f2).length + 5) * 8 ≤ 140737488355328 then ((spec_YardNums.l2 k a0 ((y17 ++ a0.f2.f2) ++ [a0.f3, t18, a0.f5.f0, a0.f5.f1, (a0.f5.f2.length : Int)]) 0).bind fun y24 => (spec_YardNums.l3 k a0 y24 0)) else none) else none)) else none)) else none) else (some ([] : List Int))
theorem spec_YardNums.go : Callable prog 8 := ⟨_, func8, by kernel_rfl, rfl⟩
theorem spec_YardNums.ok (k : Nat) (a0 : S48) (r : (List Int)) (h : spec_YardNums.f k a0 = some r) : VCalls prog 8 [.agg (e48 a0)] [.c (.own 3 1 r.length (fun j => (eI .i64) (r.getD j 0)))] := by
  unfold spec_YardNums.f at h
  refine VCalls.of (fn := f8) (N := 161) func8 rfl rfl (fun w0 => ?_)
  obtain ⟨t1, g1, h⟩ := bindN h
  let C1 := mkCon (spec_YardOk.ok k a0 t1 g1) spec_YardOk.go
  by_cases c2 : t1 = true
  · replace h := ip c2 h
    obtain ⟨c3, h⟩ := ifN h
    have H0 : ∀ (kq : Nat) (v5 : List Int) (v6 : Int) (x : (List Int)), spec_YardNums.l0 kq a0 v5 v6 = some x → AG prog 8 161 [.c (.own 3 1 r.length (fun j => (eI .i64) (r.getD j 0)))] w0 (exitStk (codeOf f8) 0) (mkFS (spec_YardNums.x0T a0 x) (spec_YardNums.x0H a0 x)) → AG prog 8 161 [.c (.own 3 1 r.length (fun j => (eI .i64) (r.getD j 0)))] w0 (headStk (codeOf f8) 0) (mkFS (spec_YardNums.h0T v6 a0 v5) (spec_YardNums.h0H v6 a0 v5)) := by
      intro kq
      induction kq with
      | zero => intro v5 v6 x h hx; cases h
      | succ kq ih =>
        intro v5 v6 x h hx
        rw [spec_YardNums.l0] at h
        by_cases c12 : v6 < (a0.f0.f0.f2.size : Int)
        · replace h := ip c12 h
          obtain ⟨c13, h⟩ := ifN h
          obtain ⟨c14, h⟩ := ifN h
          exact hd func8 [.b true, rowe 38 (eI .i64) 0 ([(w64 (bt a0.f0.f0.f2 v6))]), .aft 39, orow 640 (eI .i64) 0 (v5 ++ [(w64 (bt a0.f0.f0.f2 v6))]), .fin] (oT c12 (o1 c13 (o1 c12 (o1 (GE.lit 1 (eI .i64) 0 [(w64 (bt a0.f0.f0.f2 v6))] (by intro x; rfl)) (o1 c14 (o1 (GE.app (e := (eI .i64)) (d := 0) v5 ([(w64 (bt a0.f0.f0.f2 v6))]) rfl (fun _ _ => CE.refl _) rfl) on)))))) (ih (v5 ++ [(w64 (bt a0.f0.f0.f2 v6))]) (w64 (v6 + 1)) _ h hx)
        · replace h := iq c12 h
          cases h
          exact st func8 [.b false, .fin] (oF c12 on) hx
    obtain ⟨y7, g60, h⟩ := bindN h
    refine hd func8 [rowe 10 (eI .i64) 0 ([] : List Int), .call C1, .b false, rowe 23 (eI .i64) 0 ([a0.f0.f0.f0, a0.f0.f0.f1]), .aft 24, orow 640 (eI .i64) 0 (([] : List Int) ++ [a0.f0.f0.f0, a0.f0.f0.f1]), .fin] (o1 (GE.lit 1 (eI .i64) 0 ([] : List Int) (by intro x; rfl)) (oc C1 (o1 (bnf c2) (o1 (GE.lit 1 (eI .i64) 0 [a0.f0.f0.f0, a0.f0.f0.f1] (by intro x; rfl)) (o1 c3 (o1 (GE.app (e := (eI .i64)) (d := 0) ([] : List Int) ([a0.f0.f0.f0, a0.f0.f0.f1]) rfl (fun _ _ => CE.refl _) rfl) on)))))) (H0 k (([] : List Int) ++ [a0.f0.f0.f0, a0.f0.f0.f1]) 0 _ g60 ?_)
    obtain ⟨c15, h⟩ := ifN h
    have H1 : ∀ (kq : Nat) (v14 : List Int) (v15 : Int) (x : (List Int)), spec_YardNums.l1 kq a0 v14 v15 = some x → AG prog 8 161 [.c (.own 3 1 r.length (fun j => (eI .i64) (r.getD j 0)))] w0 (exitStk (codeOf f8) 1) (mkFS (spec_YardNums.x1T a0 x) (spec_YardNums.x1H a0 x)) → AG prog 8 161 [.c (.own 3 1 r.length (fun j => (eI .i64) (r.getD j 0)))] w0 (headStk (codeOf f8) 1) (mkFS (spec_YardNums.h1T v15 a0 v14) (spec_YardNums.h1H v15 a0 v14)) := by
      intro kq
      induction kq with
      | zero => intro v14 v15 x h hx; cases h
      | succ kq ih =>
        intro v14 v15 x h hx
        rw [spec_YardNums.l1] at h
        by_cases c27 : v15 < (a0.f1.length : Int)
        · replace h := ip c27 h
          obtain ⟨c28, h⟩ := ifN h
          obtain ⟨t16, g29, h⟩ := bindN h
          let C29 := mkCon (spec_l31Flag.ok ((rdD z69 a0.f1 v15).f3) t16 g29) spec_l31Flag.go
          obtain ⟨c30, h⟩ := ifN h
          exact hd func8 [.b true, .call C29, rowe 80 (eI .i64) 0 ([(rdD z69 a0.f1 v15).f0, (rdD z69 a0.f1 v15).f1, (rdD z69 a0.f1 v15).f2, t16]), .aft 81, orow 640 (eI .i64) 0 (v14 ++ [(rdD z69 a0.f1 v15).f0, (rdD z69 a0.f1 v15).f1, (rdD z69 a0.f1 v15).f2, t16]), .fin] (oT c27 (o1 c28 (o1 c27 (oc C29 (o1 (GE.lit 1 (eI .i64) 0 [(rdD z69 a0.f1 v15).f0, (rdD z69 a0.f1 v15).f1, (rdD z69 a0.f1 v15).f2, t16] (by intro x; rfl)) (o1 c30 (o1 (GE.app (e := (eI .i64)) (d := 0) v14 ([(rdD z69 a0.f1 v15).f0, (rdD z69 a0.f1 v15).f1, (rdD z69 a0.f1 v15).f2, t16]) rfl (fun _ _ => CE.refl _) rfl) on))))))) (ih (v14 ++ [(rdD z69 a0.f1 v15).f0, (rdD z69 a0.f1 v15).f1, (rdD z69 a0.f1 v15).f2, t16]) (w64 (v15 + 1)) _ h hx)
        · replace h := iq c27 h
          cases h
          exact st func8 [.b false, .fin] (oF c27 on) hx
    obtain ⟨y17, g59, h⟩ := bindN h
    refine hd func8 [rowe 56 (eI .i64) 0 ([a0.f0.f1, a0.f0.f2, a0.f0.f3, a0.f0.f4, (a0.f1.length : Int)]), .aft 57, orow 640 (eI .i64) 0 (y7 ++ [a0.f0.f1, a0.f0.f2, a0.f0.f3, a0.f0.f4, (a0.f1.length : Int)]), .fin] (o1 (GE.lit 1 (eI .i64) 0 [a0.f0.f1, a0.f0.f2, a0.f0.f3, a0.f0.f4, (a0.f1.length : Int)] (by intro x; rfl)) (o1 c15 (o1 (GE.app (e := (eI .i64)) (d := 0) y7 ([a0.f0.f1, a0.f0.f2, a0.f0.f3, a0.f0.f4, (a0.f1.length : Int)]) rfl (fun _ _ => CE.refl _) rfl) on))) (H1 k (y7 ++ [a0.f0.f1, a0.f0.f2, a0.f0.f3, a0.f0.f4, (a0.f1.length : Int)]) 0 _ g59 ?_)
    obtain ⟨c31, h⟩ := ifN h
    obtain ⟨t18, g32, h⟩ := bindN h
    let C32 := mkCon (spec_l31Flag.ok a0.f4 t18 g32) spec_l31Flag.go
    obtain ⟨c33, h⟩ := ifN h
    have H2 : ∀ (kq : Nat) (v22 : List Int) (v23 : Int) (x : (List Int)), spec_YardNums.l2 kq a0 v22 v23 = some x → AG prog 8 161 [.c (.own 3 1 r.length (fun j => (eI .i64) (r.getD j 0)))] w0 (exitStk (codeOf f8) 2) (mkFS (spec_YardNums.x2T a0 x) (spec_YardNums.x2H a0 x)) → AG prog 8 161 [.c (.own 3 1 r.length (fun j => (eI .i64) (r.getD j 0)))] w0 (headStk (codeOf f8) 2) (mkFS (spec_YardNums.h2T v23 a0 v22) (spec_YardNums.h2H v23 a0 v22)) := by
      intro kq
      induction kq with
      | zero => intro v22 v23 x h hx; cases h
      | succ kq ih =>
        intro v22 v23 x h hx
        rw [spec_YardNums.l2] at h
        by_cases c42 : v23 < (a0.f5.f2.length : Int)
        · replace h := ip c42 h
          obtain ⟨c43, h⟩ := ifN h
          obtain ⟨c44, h⟩ := ifN h
          exact hd func8 [.b true, .aft 121, orow 640 (eI .i64) 0 (v22 ++ (rdD z72 a0.f5.f2 v23).f0), .reg 20, .flat 640, .fin] (oT c42 (o1 c43 (o1 c42 (o1 c44 (o1 (GE.app (e := (eI .i64)) (d := 0) v22 ((rdD z72 a0.f5.f2 v23).f0) rfl (fun _ _ => CE.refl _) rfl) (o1 (SC.of (e := (eI .i64)) (d := 0) (v22 ++ (rdD z72 a0.f5.f2 v23).f0) (by intro x; rfl)) on)))))) (ih (v22 ++ (rdD z72 a0.f5.f2 v23).f0) (w64 (v23 + 1)) _ h hx)
        · replace h := iq c42 h
          cases h
          exact st func8 [.b false, .fin] (oF c42 on) hx
    obtain ⟨y24, g58, h⟩ := bindN h
    refine hd func8 [.aft 86, orow 640 (eI .i64) 0 (y17 ++ a0.f2.f2), .reg 17, .flat 640, .call C32, rowe 103 (eI .i64) 0 ([a0.f3, t18, a0.f5.f0, a0.f5.f1, (a0.f5.f2.length : Int)]), .aft 104, orow 640 (eI .i64) 0 ((y17 ++ a0.f2.f2) ++ [a0.f3, t18, a0.f5.f0, a0.f5.f1, (a0.f5.f2.length : Int)]), .fin] (o1 c31 (o1 (GE.app (e := (eI .i64)) (d := 0) y17 a0.f2.f2 rfl (fun _ _ => CE.refl _) rfl) (o1 (SC.of (e := (eI .i64)) (d := 0) (y17 ++ a0.f2.f2) (by intro x; rfl)) (oc C32 (o1 (GE.lit 1 (eI .i64) 0 [a0.f3, t18, a0.f5.f0, a0.f5.f1, (a0.f5.f2.length : Int)] (by intro x; rfl)) (o1 c33 (o1 (GE.app (e := (eI .i64)) (d := 0) (y17 ++ a0.f2.f2) ([a0.f3, t18, a0.f5.f0, a0.f5.f1, (a0.f5.f2.length : Int)]) rfl (fun _ _ => CE.refl _) rfl) on))))))) (H2 k ((y17 ++ a0.f2.f2) ++ [a0.f3, t18, a0.f5.f0, a0.f5.f1, (a0.f5.f2.length : Int)]) 0 _ g58 ?_)
    have H3 : ∀ (kq : Nat) (v28 : List Int) (v29 : Int), spec_YardNums.l3 kq a0 v28 v29 = some r → AG prog 8 161 [.c (.own 3 1 r.length (fun j => (eI .i64) (r.getD j 0)))] w0 (headStk (codeOf f8) 3) (mkFS (spec_YardNums.h3T v29 a0 v28) (spec_YardNums.h3H v29 a0 v28)) := by
      intro kq
      induction kq with
      | zero => intro v28 v29 h; cases h
      | succ kq ih =>
        intro v28 v29 h
        rw [spec_YardNums.l3] at h
        by_cases c52 : v29 < (a0.f6.length : Int)
        · replace h := ip c52 h
          obtain ⟨c53, h⟩ := ifN h
          obtain ⟨t30, g54, h⟩ := bindN h
          let C54 := mkCon (spec_l31Flag.ok ((rdD z74 a0.f6 v29).f2) t30 g54) spec_l31Flag.go
          obtain ⟨c55, h⟩ := ifN h
          exact hd func8 [.b true, .call C54, rowe 149 (eI .i64) 0 ([(rdD z74 a0.f6 v29).f0, (rdD z74 a0.f6 v29).f1, t30]), .aft 150, orow 640 (eI .i64) 0 (v28 ++ [(rdD z74 a0.f6 v29).f0, (rdD z74 a0.f6 v29).f1, t30]), .fin] (oT c52 (o1 c53 (o1 c52 (o1 c53 (o1 c52 (o1 c53 (o1 c52 (oc C54 (o1 (GE.lit 1 (eI .i64) 0 [(rdD z74 a0.f6 v29).f0, (rdD z74 a0.f6 v29).f1, t30] (by intro x; rfl)) (o1 c55 (o1 (GE.app (e := (eI .i64)) (d := 0) v28 ([(rdD z74 a0.f6 v29).f0, (rdD z74 a0.f6 v29).f1, t30]) rfl (fun _ _ => CE.refl _) rfl) on))))))))))) (ih (v28 ++ [(rdD z74 a0.f6 v29).f0, (rdD z74 a0.f6 v29).f1, t30]) (w64 (v29 + 1)) h)
        · replace h := iq c52 h
          obtain ⟨c56, h⟩ := ifN h
          obtain ⟨c57, h⟩ := ifN h
          cases h
          exact rt func8 [.b false, .fin, rowe 155 (eI .i64) 0 ([(a0.f7.length : Int)]), .aft 156, orow 640 (eI .i64) 0 (v28 ++ [(a0.f7.length : Int)]), .aft 160, orow 640 (eI .i64) 0 ((v28 ++ [(a0.f7.length : Int)]) ++ a0.f7), .fin, .flat 640] (oF c52 (o1 (GE.lit 1 (eI .i64) 0 [(a0.f7.length : Int)] (by intro x; rfl)) (o1 c56 (o1 (GE.app (e := (eI .i64)) (d := 0) v28 ([(a0.f7.length : Int)]) rfl (fun _ _ => CE.refl _) rfl) (o1 c57 (o1 (GE.app (e := (eI .i64)) (d := 0) (v28 ++ [(a0.f7.length : Int)]) a0.f7 rfl (fun _ _ => CE.refl _) rfl) (o1 (SC.of (e := (eI .i64)) (d := 0) ((v28 ++ [(a0.f7.length : Int)]) ++ a0.f7) (by intro x; rfl)) on)))))))
    exact hd func8 [.fin] on (H3 k y24 0 h)
  · replace h := iq c2 h
    cases h
    exact rt func8 [rowe 10 (eI .i64) 0 ([] : List Int), .call C1, .b true, .fin] (o1 (GE.lit 1 (eI .i64) 0 ([] : List Int) (by intro x; rfl)) (oc C1 (oN c2 on)))

/-! ### impl_WindowNew: function 158 -/
def impl_WindowNew.f (a0 : Int) (a1 : Int) : Option (S42 × Bool) := if a0 < 1 then (some ((⟨0, 0, ([] : List Int)⟩ : S42), false)) else (if 8 < a0 then (some ((⟨0, 0, ([] : List Int)⟩ : S42), false)) else (if a1 < 1 then (some ((⟨0, 0, ([] : List Int)⟩ : S42), false)) else (if 100 < a1 then (some ((⟨0, 0, ([] : List Int)⟩ : S42), false)) else (if 0 ≤ (w64 (a0 * 6)) then (if (w64 (a0 * 6)).toNat * 8 ≤ 140737488355328 then (some ((⟨a0, a1, (List.replicate (w64 (a0 * 6)).toNat 0)⟩ : S42), true)) else none) else none))))
theorem impl_WindowNew.go : Callable prog 158 := ⟨_, func158, by kernel_rfl, rfl⟩
theorem impl_WindowNew.ok (a0 : Int) (a1 : Int) (r : S42 × Bool) (h : impl_WindowNew.f a0 a1 = some r) : VCalls prog 158 [.c (iI a0), .c (iI a1)] [.agg (r42 r.1), .c (.p (.sc (.bool r.2)))] := by
  unfold impl_WindowNew.f at h
  refine VCalls.of (fn := f158) (N := 27) func158 rfl rfl (fun w0 => ?_)
  by_cases c1 : a0 < 1
  · replace h := ip c1 h
    cases h
    exact rt func158 [.dec 8 true, .b true, .fin, .nilB 256 2 448258 3 1, orow 448258 (eI .i64) 0 ([] : List Int)] (oT c1 (oR (o1 (GE.nil (eI .i64) 0) on)))
  · replace h := iq c1 h
    by_cases c2 : 8 < a0
    · replace h := ip c2 h
      cases h
      exact rt func158 [.dec 8 false, .dec 12 true, .b true, .fin, .nilB 256 2 448258 3 1, orow 448258 (eI .i64) 0 ([] : List Int)] (oF c1 (oT c2 (oR (o1 (GE.nil (eI .i64) 0) on))))
    · replace h := iq c2 h
      by_cases c3 : a1 < 1
      · replace h := ip c3 h
        cases h
        exact rt func158 [.dec 8 false, .dec 12 false, .dec 16 true, .b true, .fin, .nilB 256 2 448258 3 1, orow 448258 (eI .i64) 0 ([] : List Int)] (oF c1 (oF c2 (oT c3 (oR (o1 (GE.nil (eI .i64) 0) on)))))
      · replace h := iq c3 h
        by_cases c4 : 100 < a1
        · replace h := ip c4 h
          cases h
          exact rt func158 [.dec 8 false, .dec 12 false, .dec 16 false, .b true, .fin, .nilB 256 2 448258 3 1, orow 448258 (eI .i64) 0 ([] : List Int)] (oF c1 (oF c2 (oF c3 (oT c4 (o1 (GE.nil (eI .i64) 0) on)))))
        · replace h := iq c4 h
          obtain ⟨c5, h⟩ := ifN h
          obtain ⟨c6, h⟩ := ifN h
          cases h
          exact rt func158 [.dec 8 false, .dec 12 false, .dec 16 false, .b false, rowe 25 (eI .i64) 0 (List.replicate (w64 (a0 * 6)).toNat 0), .fin] (oF c1 (oF c2 (oF c3 (oF c4 (o1 (rfl : (w64 (a0 * 6)) = (w64 (a0 * 6))) (o1 c5 (o1 (mxl (b := 8) (by decide) c6) (o1 c6 (o1 (GE.rep (e := (eI .i64)) (d := 0) (w64 (a0 * 6)).toNat (CE.refl _)) on)))))))))

/-! ### impl_GridOk: function 134 -/
def impl_GridOk.h0T (v1 : Int) (a0 : S38) : List (Nat × AV) := [(1, .ptr 64 0), (3, .t (.c (.p true (iI v1))))]
def impl_GridOk.h0H (v1 : Int) (a0 : S38) : List (Nat × Content) := [(64, .box 38 [.p false (iI a0.f0), .p false (iI a0.f1), .p false (.sc (.string a0.f2))])]
def impl_GridOk.l0 : Nat → S38 → Int → Option Bool
  | 0, _, _ => none
  | kq + 1, a0, v1 => if v1 < (a0.f2.size : Int) then (if 0 ≤ v1 then (if (bt a0.f2 v1) = 46 then (impl_GridOk.l0 kq a0 (w64 (v1 + 1))) else (if (bt a0.f2 v1) = 35 then (impl_GridOk.l0 kq a0 (w64 (v1 + 1))) else (if (bt a0.f2 v1) < 97 then (if (bt a0.f2 v1) < 65 then (some false) else (if 70 < (bt a0.f2 v1) then (some false) else (impl_GridOk.l0 kq a0 (w64 (v1 + 1))))) else (if 102 < (bt a0.f2 v1) then (if (bt a0.f2 v1) < 65 then (some false) else (if 70 < (bt a0.f2 v1) then (some false) else (impl_GridOk.l0 kq a0 (w64 (v1 + 1))))) else (impl_GridOk.l0 kq a0 (w64 (v1 + 1))))))) else none) else (some true)
def impl_GridOk.f (k : Nat) (a0 : S38) : Option Bool := if a0.f0 < 1 then (some false) else (if 8 < a0.f0 then (some false) else (if a0.f1 < 1 then (some false) else (if 8 < a0.f1 then (some false) else (if (a0.f2.size : Int) = (w64 (a0.f0 * a0.f1)) then (impl_GridOk.l0 k a0 0) else (some false)))))
theorem impl_GridOk.go : Callable prog 134 := ⟨_, func134, by kernel_rfl, rfl⟩
theorem impl_GridOk.ok (k : Nat) (a0 : S38) (r : Bool) (h : impl_GridOk.f k a0 = some r) : VCalls prog 134 [.agg (e38 a0)] [.c (.p (.sc (.bool r)))] := by
  unfold impl_GridOk.f at h
  refine VCalls.of (fn := f134) (N := 67) func134 rfl rfl (fun w0 => ?_)
  by_cases c1 : a0.f0 < 1
  · replace h := ip c1 h
    cases h
    exact rt func134 [.dec 8 true, .b true, .fin] (oT c1 (oR on))
  · replace h := iq c1 h
    by_cases c2 : 8 < a0.f0
    · replace h := ip c2 h
      cases h
      exact rt func134 [.dec 8 false, .dec 13 true, .b true, .fin] (oF c1 (oT c2 (oR on)))
    · replace h := iq c2 h
      by_cases c3 : a0.f1 < 1
      · replace h := ip c3 h
        cases h
        exact rt func134 [.dec 8 false, .dec 13 false, .dec 18 true, .b true, .fin] (oF c1 (oF c2 (oT c3 (oR on))))
      · replace h := iq c3 h
        by_cases c4 : 8 < a0.f1
        · replace h := ip c4 h
          cases h
          exact rt func134 [.dec 8 false, .dec 13 false, .dec 18 false, .dec 23 true, .b true, .fin] (oF c1 (oF c2 (oF c3 (oT c4 (oR on)))))
        · replace h := iq c4 h
          by_cases c5 : (a0.f2.size : Int) = (w64 (a0.f0 * a0.f1))
          · replace h := ip c5 h
            have H0 : ∀ (kq : Nat) (v1 : Int), impl_GridOk.l0 kq a0 v1 = some r → AG prog 134 67 [.c (.p (.sc (.bool r)))] w0 (headStk (codeOf f134) 0) (mkFS (impl_GridOk.h0T v1 a0) (impl_GridOk.h0H v1 a0)) := by
              intro kq
              induction kq with
              | zero => intro v1 h; cases h
              | succ kq ih =>
                intro v1 h
                rw [impl_GridOk.l0] at h
                by_cases c8 : v1 < (a0.f2.size : Int)
                · replace h := ip c8 h
                  obtain ⟨c9, h⟩ := ifN h
                  by_cases c10 : (bt a0.f2 v1) = 46
                  · replace h := ip c10 h
                    exact hd func134 [.b true, .dec 47 false, .b false, .fin] (oT c8 (o1 c9 (o1 c8 (o1 (bnf (decide_eq_true c10)) (o1 (rfl : false = false) on))))) (ih (w64 (v1 + 1)) h)
                  · replace h := iq c10 h
                    by_cases c11 : (bt a0.f2 v1) = 35
                    · replace h := ip c11 h
                      exact hd func134 [.b true, .dec 47 true, .dec 51 false, .b false, .fin] (oT c8 (o1 c9 (o1 c8 (o1 (bnt (decide_eq_false c10)) (o1 (bnf (decide_eq_true c11)) (o1 (rfl : false = false) on)))))) (ih (w64 (v1 + 1)) h)
                    · replace h := iq c11 h
                      by_cases c12 : (bt a0.f2 v1) < 97
                      · replace h := ip c12 h
                        by_cases c13 : (bt a0.f2 v1) < 65
                        · replace h := ip c13 h
                          cases h
                          exact rt func134 [.b true, .dec 47 true, .dec 51 true, .dec 54 true, .dec 62 true, .b true, .fin] (oT c8 (o1 c9 (o1 c8 (o1 (bnt (decide_eq_false c10)) (o1 (bnt (decide_eq_false c11)) (oT c12 (oT c13 (oR on))))))))
                        · replace h := iq c13 h
                          by_cases c14 : 70 < (bt a0.f2 v1)
                          · replace h := ip c14 h
                            cases h
                            exact rt func134 [.b true, .dec 47 true, .dec 51 true, .dec 54 true, .dec 62 false, .b true, .fin] (oT c8 (o1 c9 (o1 c8 (o1 (bnt (decide_eq_false c10)) (o1 (bnt (decide_eq_false c11)) (oT c12 (oF c13 (oT c14 on))))))))
                          · replace h := iq c14 h
                            exact hd func134 [.b true, .dec 47 true, .dec 51 true, .dec 54 true, .dec 62 false, .b false, .fin] (oT c8 (o1 c9 (o1 c8 (o1 (bnt (decide_eq_false c10)) (o1 (bnt (decide_eq_false c11)) (oT c12 (oF c13 (oF c14 on)))))))) (ih (w64 (v1 + 1)) h)
                      · replace h := iq c12 h
                        by_cases c15 : 102 < (bt a0.f2 v1)
                        · replace h := ip c15 h
                          by_cases c16 : (bt a0.f2 v1) < 65
                          · replace h := ip c16 h
                            cases h
                            exact rt func134 [.b true, .dec 47 true, .dec 51 true, .dec 54 false, .dec 59 true, .dec 62 true, .b true, .fin] (oT c8 (o1 c9 (o1 c8 (o1 (bnt (decide_eq_false c10)) (o1 (bnt (decide_eq_false c11)) (oF c12 (oT c15 (oT c16 (oR on)))))))))
                          · replace h := iq c16 h
                            by_cases c17 : 70 < (bt a0.f2 v1)
                            · replace h := ip c17 h
                              cases h
                              exact rt func134 [.b true, .dec 47 true, .dec 51 true, .dec 54 false, .dec 59 true, .dec 62 false, .b true, .fin] (oT c8 (o1 c9 (o1 c8 (o1 (bnt (decide_eq_false c10)) (o1 (bnt (decide_eq_false c11)) (oF c12 (oT c15 (oF c16 (oT c17 on)))))))))
                            · replace h := iq c17 h
                              exact hd func134 [.b true, .dec 47 true, .dec 51 true, .dec 54 false, .dec 59 true, .dec 62 false, .b false, .fin] (oT c8 (o1 c9 (o1 c8 (o1 (bnt (decide_eq_false c10)) (o1 (bnt (decide_eq_false c11)) (oF c12 (oT c15 (oF c16 (oF c17 on))))))))) (ih (w64 (v1 + 1)) h)
                        · replace h := iq c15 h
                          exact hd func134 [.b true, .dec 47 true, .dec 51 true, .dec 54 false, .dec 59 false, .b false, .fin] (oT c8 (o1 c9 (o1 c8 (o1 (bnt (decide_eq_false c10)) (o1 (bnt (decide_eq_false c11)) (oF c12 (oF c15 (o1 (rfl : false = false) on)))))))) (ih (w64 (v1 + 1)) h)
                · replace h := iq c8 h
                  cases h
                  exact rt func134 [.b false, .fin, .fin] (oF c8 on)
            exact hd func134 [.dec 8 false, .dec 13 false, .dec 18 false, .dec 23 false, .b false, .fin] (oF c1 (oF c2 (oF c3 (oF c4 (o1 (bnf (decide_eq_true c5)) on))))) (H0 k 0 h)
          · replace h := iq c5 h
            cases h
            exact rt func134 [.dec 8 false, .dec 13 false, .dec 18 false, .dec 23 false, .b true, .fin] (oF c1 (oF c2 (oF c3 (oF c4 (o1 (bnt (decide_eq_false c5)) on)))))

/-! ### impl_SetupOk: function 90 -/
def impl_SetupOk.f (k : Nat) (a0 : S40) : Option Bool := (impl_WindowNew.f a0.f2 a0.f3).bind fun t1 => (impl_GridOk.f k a0.f0).bind fun t2 => if t2 = true then (if 1 ≤ a0.f1 then (if a0.f1 ≤ 20 then (if t1.2 = true then (if 0 ≤ a0.f4 then (some (decide (a0.f4 ≤ 20))) else (some false)) else (some false)) else (some false)) else (some false)) else (some false)
theorem impl_SetupOk.go : Callable prog 90 := ⟨_, func90, by kernel_rfl, rfl⟩
theorem impl_SetupOk.ok (k : Nat) (a0 : S40) (r : Bool) (h : impl_SetupOk.f k a0 = some r) : VCalls prog 90 [.agg (e40 a0)] [.c (.p (.sc (.bool r)))] := by
  unfold impl_SetupOk.f at h
  refine VCalls.of (fn := f90) (N := 39) func90 rfl rfl (fun w0 => ?_)
  obtain ⟨t1, g1, h⟩ := bindN h
  let C1 := mkCon (impl_WindowNew.ok a0.f2 a0.f3 t1 g1) impl_WindowNew.go
  obtain ⟨t2, g2, h⟩ := bindN h
  let C2 := mkCon (impl_GridOk.ok k a0.f0 t2 g2) impl_GridOk.go
  by_cases c3 : t2 = true
  · replace h := ip c3 h
    by_cases c4 : 1 ≤ a0.f1
    · replace h := ip c4 h
      by_cases c5 : a0.f1 ≤ 20
      · replace h := ip c5 h
        by_cases c6 : t1.2 = true
        · replace h := ip c6 h
          by_cases c7 : 0 ≤ a0.f4
          · replace h := ip c7 h
            cases h
            exact rt func90 [.call C1, .call C2, .dec 16 true, .dec 21 true, .dec 26 true, .dec 29 true, .dec 34 true, .fin] (oc C1 (oc C2 (o1 c3 (oT c4 (oT c5 (o1 c6 (oT c7 on)))))))
          · replace h := iq c7 h
            cases h
            exact rt func90 [.call C1, .call C2, .dec 16 true, .dec 21 true, .dec 26 true, .dec 29 true, .dec 34 false, .fin] (oc C1 (oc C2 (o1 c3 (oT c4 (oT c5 (o1 c6 (oF c7 on)))))))
        · replace h := iq c6 h
          cases h
          exact rt func90 [.call C1, .call C2, .dec 16 true, .dec 21 true, .dec 26 true, .dec 29 false, .fin] (oc C1 (oc C2 (o1 c3 (oT c4 (oT c5 (o1 (eqf c6) on))))))
      · replace h := iq c5 h
        cases h
        exact rt func90 [.call C1, .call C2, .dec 16 true, .dec 21 true, .dec 26 false, .fin] (oc C1 (oc C2 (o1 c3 (oT c4 (oF c5 on)))))
    · replace h := iq c4 h
      cases h
      exact rt func90 [.call C1, .call C2, .dec 16 true, .dec 21 false, .fin] (oc C1 (oc C2 (o1 c3 (oF c4 on))))
  · replace h := iq c3 h
    cases h
    exact rt func90 [.call C1, .call C2, .dec 16 false, .fin] (oc C1 (oc C2 (o1 (eqf c3) on)))

/-! ### impl_isFree: function 159 -/
def impl_isFree.f (a0 : S38) (a1 : Int) : Option Bool := if 0 ≤ a1 then (if a1 < (a0.f2.size : Int) then (some (!decide ((bt a0.f2 a1) = 35))) else (some false)) else (some false)
theorem impl_isFree.go : Callable prog 159 := ⟨_, func159, by kernel_rfl, rfl⟩
theorem impl_isFree.ok (a0 : S38) (a1 : Int) (r : Bool) (h : impl_isFree.f a0 a1 = some r) : VCalls prog 159 [.agg (e38 a0), .c (iI a1)] [.c (.p (.sc (.bool r)))] := by
  unfold impl_isFree.f at h
  refine VCalls.of (fn := f159) (N := 21) func159 rfl rfl (fun w0 => ?_)
  by_cases c1 : 0 ≤ a1
  · replace h := ip c1 h
    by_cases c2 : a1 < (a0.f2.size : Int)
    · replace h := ip c2 h
      cases h
      exact rt func159 [.dec 7 true, .dec 14 true, .fin] (oT c1 (oT c2 (o1 c1 (o1 c2 on))))
    · replace h := iq c2 h
      cases h
      exact rt func159 [.dec 7 true, .dec 14 false, .fin] (oT c1 (oF c2 on))
  · replace h := iq c1 h
    cases h
    exact rt func159 [.dec 7 false, .fin] (oF c1 on)

/-! ### impl_around: function 213 -/
def impl_around.f (a0 : S38) (a1 : Int) : Option (List Int) := (impl_isFree.f a0 a1).bind fun t1 => if t1 = true then ((impl_isFree.f a0 (w64 (a1 - a0.f0))).bind fun t2 => if t2 = true then (if (([] : List Int).length + 1) * 8 ≤ 140737488355328 then (if a0.f0 ≠ 0 then (if 0 < (a1.tmod a0.f0) then ((impl_isFree.f a0 (w64 (a1 - 1))).bind fun t3 => if t3 = true then (if ((([] : List Int) ++ [(w64 (a1 - a0.f0))]).length + 1) * 8 ≤ 140737488355328 then (if (a1.tmod a0.f0) < (w64 (a0.f0 - 1)) then ((impl_isFree.f a0 (w64 (a1 + 1))).bind fun t4 => if t4 = true then (if (((([] : List Int) ++ [(w64 (a1 - a0.f0))]) ++ [(w64 (a1 - 1))]).length + 1) * 8 ≤ 140737488355328 then ((impl_isFree.f a0 (w64 (a1 + a0.f0))).bind fun t5 => if t5 = true then (if ((((([] : List Int) ++ [(w64 (a1 - a0.f0))]) ++ [(w64 (a1 - 1))]) ++ [(w64 (a1 + 1))]).length + 1) * 8 ≤ 140737488355328 then (some ((((([] : List Int) ++ [(w64 (a1 - a0.f0))]) ++ [(w64 (a1 - 1))]) ++ [(w64 (a1 + 1))]) ++ [(w64 (a1 + a0.f0))])) else none) else (some (((([] : List Int) ++ [(w64 (a1 - a0.f0))]) ++ [(w64 (a1 - 1))]) ++ [(w64 (a1 + 1))]))) else none) else ((impl_isFree.f a0 (w64 (a1 + a0.f0))).bind fun t6 => if t6 = true then (if (((([] : List Int) ++ [(w64 (a1 - a0.f0))]) ++ [(w64 (a1 - 1))]).length + 1) * 8 ≤ 140737488355328 then (some (((([] : List Int) ++ [(w64 (a1 - a0.f0))]) ++ [(w64 (a1 - 1))]) ++ [(w64 (a1 + a0.f0))])) else none) else (some ((([] : List Int) ++ [(w64 (a1 - a0.f0))]) ++ [(w64 (a1 - 1))])))) else ((impl_isFree.f a0 (w64 (a1 + a0.f0))).bind fun t7 => if t7 = true then (if (((([] : List Int) ++ [(w64 (a1 - a0.f0))]) ++ [(w64 (a1 - 1))]).length + 1) * 8 ≤ 140737488355328 then (some (((([] : List Int) ++ [(w64 (a1 - a0.f0))]) ++ [(w64 (a1 - 1))]) ++ [(w64 (a1 + a0.f0))])) else none) else (some ((([] : List Int) ++ [(w64 (a1 - a0.f0))]) ++ [(w64 (a1 - 1))])))) else none) else (if (a1.tmod a0.f0) < (w64 (a0.f0 - 1)) then ((impl_isFree.f a0 (w64 (a1 + 1))).bind fun t8 => if t8 = true then (if ((([] : List Int) ++ [(w64 (a1 - a0.f0))]).length + 1) * 8 ≤ 140737488355328 then ((impl_isFree.f a0 (w64 (a1 + a0.f0))).bind fun t9 => if t9 = true then (if (((([] : List Int) ++ [(w64 (a1 - a0.f0))]) ++ [(w64 (a1 + 1))]).length + 1) * 8 ≤ 140737488355328 then (some (((([] : List Int) ++ [(w64 (a1 - a0.f0))]) ++ [(w64 (a1 + 1))]) ++ [(w64 (a1 + a0.f0))])) else none) else (some ((([] : List Int) ++ [(w64 (a1 - a0.f0))]) ++ [(w64 (a1 + 1))]))) else none) else ((impl_isFree.f a0 (w64 (a1 + a0.f0))).bind fun t10 => if t10 = true then (if ((([] : List Int) ++ [(w64 (a1 - a0.f0))]).length + 1) * 8 ≤ 140737488355328 then (some ((([] : List Int) ++ [(w64 (a1 - a0.f0))]) ++ [(w64 (a1 + a0.f0))])) else none) else (some (([] : List Int) ++ [(w64 (a1 - a0.f0))])))) else ((impl_isFree.f a0 (w64 (a1 + a0.f0))).bind fun t11 => if t11 = true then (if ((([] : List Int) ++ [(w64 (a1 - a0.f0))]).length + 1) * 8 ≤ 140737488355328 then (some ((([] : List Int) ++ [(w64 (a1 - a0.f0))]) ++ [(w64 (a1 + a0.f0))])) else none) else (some (([] : List Int) ++ [(w64 (a1 - a0.f0))]))))) else (if (a1.tmod a0.f0) < (w64 (a0.f0 - 1)) then ((impl_isFree.f a0 (w64 (a1 + 1))).bind fun t12 => if t12 = true then (if ((([] : List Int) ++ [(w64 (a1 - a0.f0))]).length + 1) * 8 ≤ 140737488355328 then ((impl_isFree.f a0 (w64 (a1 + a0.f0))).bind fun t13 => if t13 = true then (if (((([] : List Int) ++ [(w64 (a1 - a0.f0))]) ++ [(w64 (a1 + 1))]).length + 1) * 8 ≤ 140737488355328 then (some (((([] : List Int) ++ [(w64 (a1 - a0.f0))]) ++ [(w64 (a1 + 1))]) ++ [(w64 (a1 + a0.f0))])) else none) else (some ((([] : List Int) ++ [(w64 (a1 - a0.f0))]) ++ [(w64 (a1 + 1))]))) else none) else ((impl_isFree.f a0 (w64 (a1 + a0.f0))).bind fun t14 => if t14 = true then (if ((([] : List Int) ++ [(w64 (a1 - a0.f0))]).length + 1) * 8 ≤ 140737488355328 then (some ((([] : List Int) ++ [(w64 (a1 - a0.f0))]) ++ [(w64 (a1 + a0.f0))])) else none) else (some (([] : List Int) ++ [(w64 (a1 - a0.f0))])))) else ((impl_isFree.f a0 (w64 (a1 + a0.f0))).bind fun t15 => if t15 = true then (if ((([] : List Int) ++ [(w64 (a1 - a0.f0))]).length + 1) * 8 ≤ 140737488355328 then (some ((([] : List Int) ++ [(w64 (a1 - a0.f0))]) ++ [(w64 (a1 + a0.f0))])) else none) else (some (([] : List Int) ++ [(w64 (a1 - a0.f0))]))))) else none) else none) else (if a0.f0 ≠ 0 then (if 0 < (a1.tmod a0.f0) then ((impl_isFree.f a0 (w64 (a1 - 1))).bind fun t16 => if t16 = true then (if (([] : List Int).length + 1) * 8 ≤ 140737488355328 then (if (a1.tmod a0.f0) < (w64 (a0.f0 - 1)) then ((impl_isFree.f a0 (w64 (a1 + 1))).bind fun t17 => if t17 = true then (if ((([] : List Int) ++ [(w64 (a1 - 1))]).length + 1) * 8 ≤ 140737488355328 then ((impl_isFree.f a0 (w64 (a1 + a0.f0))).bind fun t18 => if t18 = true then (if (((([] : List Int) ++ [(w64 (a1 - 1))]) ++ [(w64 (a1 + 1))]).length + 1) * 8 ≤ 140737488355328 then (some (((([] : List Int) ++ [(w64 (a1 - 1))]) ++ [(w64 (a1 + 1))]) ++ [(w64 (a1 + a0.f0))])) else none) else (some ((([] : List Int) ++ [(w64 (a1 - 1))]) ++ [(w64 (a1 + 1))]))) else none) else ((impl_isFree.f a0 (w64 (a1 + a0.f0))).bind fun t19 => if t19 = true then (if ((([] : List Int) ++ [(w64 (a1 - 1))]).length + 1) * 8 ≤ 140737488355328 then (some ((([] : List Int) ++ [(w64 (a1 - 1))]) ++ [(w64 (a1 + a0.f0))])) else none) else (some (([] : List Int) ++ [(w64 (a1 - 1))])))) else ((impl_isFree.f a0 (w64 (a1 + a0.f0))).bind fun t20 => if t20 = true then (if ((([] : List Int) ++ [(w64 (a1 - 1))]).length + 1) * 8 ≤ 140737488355328 then (some ((([] : List Int) ++ [(w64 (a1 - 1))]) ++ [(w64 (a1 + a0.f0))])) else none) else (some (([] : List Int) ++ [(w64 (a1 - 1))])))) else none) else (if (a1.tmod a0.f0) < (w64 (a0.f0 - 1)) then ((impl_isFree.f a0 (w64 (a1 + 1))).bind fun t21 => if t21 = true then (if (([] : List Int).length + 1) * 8 ≤ 140737488355328 then ((impl_isFree.f a0 (w64 (a1 + a0.f0))).bind fun t22 => if t22 = true then (if ((([] : List Int) ++ [(w64 (a1 + 1))]).length + 1) * 8 ≤ 140737488355328 then (some ((([] : List Int) ++ [(w64 (a1 + 1))]) ++ [(w64 (a1 + a0.f0))])) else none) else (some (([] : List Int) ++ [(w64 (a1 + 1))]))) else none) else ((impl_isFree.f a0 (w64 (a1 + a0.f0))).bind fun t23 => if t23 = true then (if (([] : List Int).length + 1) * 8 ≤ 140737488355328 then (some (([] : List Int) ++ [(w64 (a1 + a0.f0))])) else none) else (some ([] : List Int)))) else ((impl_isFree.f a0 (w64 (a1 + a0.f0))).bind fun t24 => if t24 = true then (if (([] : List Int).length + 1) * 8 ≤ 140737488355328 then (some (([] : List Int) ++ [(w64 (a1 + a0.f0))])) else none) else (some ([] : List Int))))) else (if (a1.tmod a0.f0) < (w64 (a0.f0 - 1)) then ((impl_isFree.f a0 (w64 (a1 + 1))).bind fun t25 => if t25 = true then (if (([] : List Int).length + 1) * 8 ≤ 140737488355328 then ((impl_isFree.f a0 (w64 (a1 + a0.f0))).bind fun t26 => if t26 = true then (if ((([] : List Int) ++ [(w64 (a1 + 1))]).length + 1) * 8 ≤ 140737488355328 then (some ((([] : List Int) ++ [(w64 (a1 + 1))]) ++ [(w64 (a1 + a0.f0))])) else none) else (some (([] : List Int) ++ [(w64 (a1 + 1))]))) else none) else ((impl_isFree.f a0 (w64 (a1 + a0.f0))).bind fun t27 => if t27 = true then (if (([] : List Int).length + 1) * 8 ≤ 140737488355328 then (some (([] : List Int) ++ [(w64 (a1 + a0.f0))])) else none) else (some ([] : List Int)))) else ((impl_isFree.f a0 (w64 (a1 + a0.f0))).bind fun t28 => if t28 = true then (if (([] : List Int).length + 1) * 8 ≤ 140737488355328 then (some (([] : List Int) ++ [(w64 (a1 + a0.f0))])) else none) else (some ([] : List Int))))) else none)) else (some ([] : List Int))
theorem impl_around.go : Callable prog 213 := ⟨_, func213, by kernel_rfl, rfl⟩
theorem impl_around.ok (a0 : S38) (a1 : Int) (r : (List Int)) (h : impl_around.f a0 a1 = some r) : VCalls prog 213 [.agg (e38 a0), .c (iI a1)] [.c (.own 3 1 r.length (fun j => (eI .i64) (r.getD j 0)))] := by
  unfold impl_around.f at h
  refine VCalls.of (fn := f213) (N := 70) func213 rfl rfl (fun w0 => ?_)
  obtain ⟨t1, g1, h⟩ := bindN h
  let C1 := mkCon (impl_isFree.ok a0 a1 t1 g1) impl_isFree.go
  by_cases c2 : t1 = true
  · replace h := ip c2 h
    obtain ⟨t2, g3, h⟩ := bindN h
    let C3 := mkCon (impl_isFree.ok a0 (w64 (a1 - a0.f0)) t2 g3) impl_isFree.go
    by_cases c4 : t2 = true
    · replace h := ip c4 h
      obtain ⟨c5, h⟩ := ifN h
      obtain ⟨c6, h⟩ := ifN h
      by_cases c7 : 0 < (a1.tmod a0.f0)
      · replace h := ip c7 h
        obtain ⟨t3, g8, h⟩ := bindN h
        let C8 := mkCon (impl_isFree.ok a0 (w64 (a1 - 1)) t3 g8) impl_isFree.go
        by_cases c9 : t3 = true
        · replace h := ip c9 h
          obtain ⟨c10, h⟩ := ifN h
          by_cases c11 : (a1.tmod a0.f0) < (w64 (a0.f0 - 1))
          · replace h := ip c11 h
            obtain ⟨t4, g12, h⟩ := bindN h
            let C12 := mkCon (impl_isFree.ok a0 (w64 (a1 + 1)) t4 g12) impl_isFree.go
            by_cases c13 : t4 = true
            · replace h := ip c13 h
              obtain ⟨c14, h⟩ := ifN h
              obtain ⟨t5, g15, h⟩ := bindN h
              let C15 := mkCon (impl_isFree.ok a0 (w64 (a1 + a0.f0)) t5 g15) impl_isFree.go
              by_cases c16 : t5 = true
              · replace h := ip c16 h
                obtain ⟨c17, h⟩ := ifN h
                cases h
                exact rt func213 [.call C1, .b false, .call C3, .b true, rowe 21 (eI .i64) 0 ([(w64 (a1 - a0.f0))]), .op 22, .nil 19 321216 3 1, orow 321216 (eI .i64) 0 ([] : List Int), .aft 22, orow 321216 (eI .i64) 0 (([] : List Int) ++ [(w64 (a1 - a0.f0))]), .dec 28 true, .call C8, .b true, rowe 37 (eI .i64) 0 ([(w64 (a1 - 1))]), .aft 38, orow 321216 (eI .i64) 0 ((([] : List Int) ++ [(w64 (a1 - a0.f0))]) ++ [(w64 (a1 - 1))]), .dec 47 true, .call C12, .b true, rowe 56 (eI .i64) 0 ([(w64 (a1 + 1))]), .aft 57, orow 321216 (eI .i64) 0 (((([] : List Int) ++ [(w64 (a1 - a0.f0))]) ++ [(w64 (a1 - 1))]) ++ [(w64 (a1 + 1))]), .call C15, .b true, rowe 67 (eI .i64) 0 ([(w64 (a1 + a0.f0))]), .aft 68, orow 321216 (eI .i64) 0 ((((([] : List Int) ++ [(w64 (a1 - a0.f0))]) ++ [(w64 (a1 - 1))]) ++ [(w64 (a1 + 1))]) ++ [(w64 (a1 + a0.f0))]), .fin] (oc C1 (o1 (bnf c2) (oc C3 (o1 c4 (o1 (GE.lit 1 (eI .i64) 0 [(w64 (a1 - a0.f0))] (by intro x; rfl)) (o1 (GE.nil (eI .i64) 0) (o1 c5 (o1 (GE.app (e := (eI .i64)) (d := 0) ([] : List Int) ([(w64 (a1 - a0.f0))]) rfl (fun _ _ => CE.refl _) rfl) (o1 c6 (oT c7 (oc C8 (o1 c9 (o1 (GE.lit 1 (eI .i64) 0 [(w64 (a1 - 1))] (by intro x; rfl)) (o1 c10 (o1 (GE.app (e := (eI .i64)) (d := 0) (([] : List Int) ++ [(w64 (a1 - a0.f0))]) ([(w64 (a1 - 1))]) rfl (fun _ _ => CE.refl _) rfl) (o1 c6 (oT c11 (oc C12 (o1 c13 (o1 (GE.lit 1 (eI .i64) 0 [(w64 (a1 + 1))] (by intro x; rfl)) (o1 c14 (o1 (GE.app (e := (eI .i64)) (d := 0) ((([] : List Int) ++ [(w64 (a1 - a0.f0))]) ++ [(w64 (a1 - 1))]) ([(w64 (a1 + 1))]) rfl (fun _ _ => CE.refl _) rfl) (oc C15 (o1 c16 (o1 (GE.lit 1 (eI .i64) 0 [(w64 (a1 + a0.f0))] (by intro x; rfl)) (o1 c17 (o1 (GE.app (e := (eI .i64)) (d := 0) (((([] : List Int) ++ [(w64 (a1 - a0.f0))]) ++ [(w64 (a1 - 1))]) ++ [(w64 (a1 + 1))]) ([(w64 (a1 + a0.f0))]) rfl (fun _ _ => CE.refl _) rfl) on)))))))))))))))))))))))))))
              · replace h := iq c16 h
                cases h
                exact rt func213 [.call C1, .b false, .call C3, .b true, rowe 21 (eI .i64) 0 ([(w64 (a1 - a0.f0))]), .op 22, .nil 19 321216 3 1, orow 321216 (eI .i64) 0 ([] : List Int), .aft 22, orow 321216 (eI .i64) 0 (([] : List Int) ++ [(w64 (a1 - a0.f0))]), .dec 28 true, .call C8, .b true, rowe 37 (eI .i64) 0 ([(w64 (a1 - 1))]), .aft 38, orow 321216 (eI .i64) 0 ((([] : List Int) ++ [(w64 (a1 - a0.f0))]) ++ [(w64 (a1 - 1))]), .dec 47 true, .call C12, .b true, rowe 56 (eI .i64) 0 ([(w64 (a1 + 1))]), .aft 57, orow 321216 (eI .i64) 0 (((([] : List Int) ++ [(w64 (a1 - a0.f0))]) ++ [(w64 (a1 - 1))]) ++ [(w64 (a1 + 1))]), .call C15, .b false, .fin] (oc C1 (o1 (bnf c2) (oc C3 (o1 c4 (o1 (GE.lit 1 (eI .i64) 0 [(w64 (a1 - a0.f0))] (by intro x; rfl)) (o1 (GE.nil (eI .i64) 0) (o1 c5 (o1 (GE.app (e := (eI .i64)) (d := 0) ([] : List Int) ([(w64 (a1 - a0.f0))]) rfl (fun _ _ => CE.refl _) rfl) (o1 c6 (oT c7 (oc C8 (o1 c9 (o1 (GE.lit 1 (eI .i64) 0 [(w64 (a1 - 1))] (by intro x; rfl)) (o1 c10 (o1 (GE.app (e := (eI .i64)) (d := 0) (([] : List Int) ++ [(w64 (a1 - a0.f0))]) ([(w64 (a1 - 1))]) rfl (fun _ _ => CE.refl _) rfl) (o1 c6 (oT c11 (oc C12 (o1 c13 (o1 (GE.lit 1 (eI .i64) 0 [(w64 (a1 + 1))] (by intro x; rfl)) (o1 c14 (o1 (GE.app (e := (eI .i64)) (d := 0) ((([] : List Int) ++ [(w64 (a1 - a0.f0))]) ++ [(w64 (a1 - 1))]) ([(w64 (a1 + 1))]) rfl (fun _ _ => CE.refl _) rfl) (oc C15 (o1 (eqf c16) on))))))))))))))))))))))))
            · replace h := iq c13 h
              obtain ⟨t6, g18, h⟩ := bindN h
              let C18 := mkCon (impl_isFree.ok a0 (w64 (a1 + a0.f0)) t6 g18) impl_isFree.go
              by_cases c19 : t6 = true
              · replace h := ip c19 h
                obtain ⟨c20, h⟩ := ifN h
                cases h
                exact rt func213 [.call C1, .b false, .call C3, .b true, rowe 21 (eI .i64) 0 ([(w64 (a1 - a0.f0))]), .op 22, .nil 19 321216 3 1, orow 321216 (eI .i64) 0 ([] : List Int), .aft 22, orow 321216 (eI .i64) 0 (([] : List Int) ++ [(w64 (a1 - a0.f0))]), .dec 28 true, .call C8, .b true, rowe 37 (eI .i64) 0 ([(w64 (a1 - 1))]), .aft 38, orow 321216 (eI .i64) 0 ((([] : List Int) ++ [(w64 (a1 - a0.f0))]) ++ [(w64 (a1 - 1))]), .dec 47 true, .call C12, .b false, .call C18, .b true, rowe 67 (eI .i64) 0 ([(w64 (a1 + a0.f0))]), .aft 68, orow 321216 (eI .i64) 0 (((([] : List Int) ++ [(w64 (a1 - a0.f0))]) ++ [(w64 (a1 - 1))]) ++ [(w64 (a1 + a0.f0))]), .fin] (oc C1 (o1 (bnf c2) (oc C3 (o1 c4 (o1 (GE.lit 1 (eI .i64) 0 [(w64 (a1 - a0.f0))] (by intro x; rfl)) (o1 (GE.nil (eI .i64) 0) (o1 c5 (o1 (GE.app (e := (eI .i64)) (d := 0) ([] : List Int) ([(w64 (a1 - a0.f0))]) rfl (fun _ _ => CE.refl _) rfl) (o1 c6 (oT c7 (oc C8 (o1 c9 (o1 (GE.lit 1 (eI .i64) 0 [(w64 (a1 - 1))] (by intro x; rfl)) (o1 c10 (o1 (GE.app (e := (eI .i64)) (d := 0) (([] : List Int) ++ [(w64 (a1 - a0.f0))]) ([(w64 (a1 - 1))]) rfl (fun _ _ => CE.refl _) rfl) (o1 c6 (oT c11 (oc C12 (o1 (eqf c13) (oc C18 (o1 c19 (o1 (GE.lit 1 (eI .i64) 0 [(w64 (a1 + a0.f0))] (by intro x; rfl)) (o1 c20 (o1 (GE.app (e := (eI .i64)) (d := 0) ((([] : List Int) ++ [(w64 (a1 - a0.f0))]) ++ [(w64 (a1 - 1))]) ([(w64 (a1 + a0.f0))]) rfl (fun _ _ => CE.refl _) rfl) on))))))))))))))))))))))))
              · replace h := iq c19 h
                cases h
                exact rt func213 [.call C1, .b false, .call C3, .b true, rowe 21 (eI .i64) 0 ([(w64 (a1 - a0.f0))]), .op 22, .nil 19 321216 3 1, orow 321216 (eI .i64) 0 ([] : List Int), .aft 22, orow 321216 (eI .i64) 0 (([] : List Int) ++ [(w64 (a1 - a0.f0))]), .dec 28 true, .call C8, .b true, rowe 37 (eI .i64) 0 ([(w64 (a1 - 1))]), .aft 38, orow 321216 (eI .i64) 0 ((([] : List Int) ++ [(w64 (a1 - a0.f0))]) ++ [(w64 (a1 - 1))]), .dec 47 true, .call C12, .b false, .call C18, .b false, .fin] (oc C1 (o1 (bnf c2) (oc C3 (o1 c4 (o1 (GE.lit 1 (eI .i64) 0 [(w64 (a1 - a0.f0))] (by intro x; rfl)) (o1 (GE.nil (eI .i64) 0) (o1 c5 (o1 (GE.app (e := (eI .i64)) (d := 0) ([] : List Int) ([(w64 (a1 - a0.f0))]) rfl (fun _ _ => CE.refl _) rfl) (o1 c6 (oT c7 (oc C8 (o1 c9 (o1 (GE.lit 1 (eI .i64) 0 [(w64 (a1 - 1))] (by intro x; rfl)) (o1 c10 (o1 (GE.app (e := (eI .i64)) (d := 0) (([] : List Int) ++ [(w64 (a1 - a0.f0))]) ([(w64 (a1 - 1))]) rfl (fun _ _ => CE.refl _) rfl) (o1 c6 (oT c11 (oc C12 (o1 (eqf c13) (oc C18 (o1 (eqf c19) on)))))))))))))))))))))
          · replace h := iq c11 h
            obtain ⟨t7, g21, h⟩ := bindN h
            let C21 := mkCon (impl_isFree.ok a0 (w64 (a1 + a0.f0)) t7 g21) impl_isFree.go
            by_cases c22 : t7 = true
            · replace h := ip c22 h
              obtain ⟨c23, h⟩ := ifN h
              cases h
              exact rt func213 [.call C1, .b false, .call C3, .b true, rowe 21 (eI .i64) 0 ([(w64 (a1 - a0.f0))]), .op 22, .nil 19 321216 3 1, orow 321216 (eI .i64) 0 ([] : List Int), .aft 22, orow 321216 (eI .i64) 0 (([] : List Int) ++ [(w64 (a1 - a0.f0))]), .dec 28 true, .call C8, .b true, rowe 37 (eI .i64) 0 ([(w64 (a1 - 1))]), .aft 38, orow 321216 (eI .i64) 0 ((([] : List Int) ++ [(w64 (a1 - a0.f0))]) ++ [(w64 (a1 - 1))]), .dec 47 false, .b false, .call C21, .b true, rowe 67 (eI .i64) 0 ([(w64 (a1 + a0.f0))]), .aft 68, orow 321216 (eI .i64) 0 (((([] : List Int) ++ [(w64 (a1 - a0.f0))]) ++ [(w64 (a1 - 1))]) ++ [(w64 (a1 + a0.f0))]), .fin] (oc C1 (o1 (bnf c2) (oc C3 (o1 c4 (o1 (GE.lit 1 (eI .i64) 0 [(w64 (a1 - a0.f0))] (by intro x; rfl)) (o1 (GE.nil (eI .i64) 0) (o1 c5 (o1 (GE.app (e := (eI .i64)) (d := 0) ([] : List Int) ([(w64 (a1 - a0.f0))]) rfl (fun _ _ => CE.refl _) rfl) (o1 c6 (oT c7 (oc C8 (o1 c9 (o1 (GE.lit 1 (eI .i64) 0 [(w64 (a1 - 1))] (by intro x; rfl)) (o1 c10 (o1 (GE.app (e := (eI .i64)) (d := 0) (([] : List Int) ++ [(w64 (a1 - a0.f0))]) ([(w64 (a1 - 1))]) rfl (fun _ _ => CE.refl _) rfl) (o1 c6 (oF c11 (o1 (rfl : false = false) (oc C21 (o1 c22 (o1 (GE.lit 1 (eI .i64) 0 [(w64 (a1 + a0.f0))] (by intro x; rfl)) (o1 c23 (o1 (GE.app (e := (eI .i64)) (d := 0) ((([] : List Int) ++ [(w64 (a1 - a0.f0))]) ++ [(w64 (a1 - 1))]) ([(w64 (a1 + a0.f0))]) rfl (fun _ _ => CE.refl _) rfl) on)))))))))))))))))))))))
            · replace h := iq c22 h
              cases h
              exact rt func213 [.call C1, .b false, .call C3, .b true, rowe 21 (eI .i64) 0 ([(w64 (a1 - a0.f0))]), .op 22, .nil 19 321216 3 1, orow 321216 (eI .i64) 0 ([] : List Int), .aft 22, orow 321216 (eI .i64) 0 (([] : List Int) ++ [(w64 (a1 - a0.f0))]), .dec 28 true, .call C8, .b true, rowe 37 (eI .i64) 0 ([(w64 (a1 - 1))]), .aft 38, orow 321216 (eI .i64) 0 ((([] : List Int) ++ [(w64 (a1 - a0.f0))]) ++ [(w64 (a1 - 1))]), .dec 47 false, .b false, .call C21, .b false, .fin] (oc C1 (o1 (bnf c2) (oc C3 (o1 c4 (o1 (GE.lit 1 (eI .i64) 0 [(w64 (a1 - a0.f0))] (by intro x; rfl)) (o1 (GE.nil (eI .i64) 0) (o1 c5 (o1 (GE.app (e := (eI .i64)) (d := 0) ([] : List Int) ([(w64 (a1 - a0.f0))]) rfl (fun _ _ => CE.refl _) rfl) (o1 c6 (oT c7 (oc C8 (o1 c9 (o1 (GE.lit 1 (eI .i64) 0 [(w64 (a1 - 1))] (by intro x; rfl)) (o1 c10 (o1 (GE.app (e := (eI .i64)) (d := 0) (([] : List Int) ++ [(w64 (a1 - a0.f0))]) ([(w64 (a1 - 1))]) rfl (fun _ _ => CE.refl _) rfl) (o1 c6 (oF c11 (o1 (rfl : false = false) (oc C21 (o1 (eqf c22) on))))))))))))))))))))
        · replace h := iq c9 h
          by_cases c24 : (a1.tmod a0.f0) < (w64 (a0.f0 - 1))
          · replace h := ip c24 h
            obtain ⟨t8, g25, h⟩ := bindN h
            let C25 := mkCon (impl_isFree.ok a0 (w64 (a1 + 1)) t8 g25) impl_isFree.go
            by_cases c26 : t8 = true
            · replace h := ip c26 h
              obtain ⟨c27, h⟩ := ifN h
              obtain ⟨t9, g28, h⟩ := bindN h
              let C28 := mkCon (impl_isFree.ok a0 (w64 (a1 + a0.f0)) t9 g28) impl_isFree.go
              by_cases c29 : t9 = true
              · replace h := ip c29 h
                obtain ⟨c30, h⟩ := ifN h
                cases h
                exact rt func213 [.call C1, .b false, .call C3, .b true, rowe 21 (eI .i64) 0 ([(w64 (a1 - a0.f0))]), .op 22, .nil 19 321216 3 1, orow 321216 (eI .i64) 0 ([] : List Int), .aft 22, orow 321216 (eI .i64) 0 (([] : List Int) ++ [(w64 (a1 - a0.f0))]), .dec 28 true, .call C8, .b false, .dec 47 true, .call C25, .b true, rowe 56 (eI .i64) 0 ([(w64 (a1 + 1))]), .aft 57, orow 321216 (eI .i64) 0 ((([] : List Int) ++ [(w64 (a1 - a0.f0))]) ++ [(w64 (a1 + 1))]), .call C28, .b true, rowe 67 (eI .i64) 0 ([(w64 (a1 + a0.f0))]), .aft 68, orow 321216 (eI .i64) 0 (((([] : List Int) ++ [(w64 (a1 - a0.f0))]) ++ [(w64 (a1 + 1))]) ++ [(w64 (a1 + a0.f0))]), .fin] (oc C1 (o1 (bnf c2) (oc C3 (o1 c4 (o1 (GE.lit 1 (eI .i64) 0 [(w64 (a1 - a0.f0))] (by intro x; rfl)) (o1 (GE.nil (eI .i64) 0) (o1 c5 (o1 (GE.app (e := (eI .i64)) (d := 0) ([] : List Int) ([(w64 (a1 - a0.f0))]) rfl (fun _ _ => CE.refl _) rfl) (o1 c6 (oT c7 (oc C8 (o1 (eqf c9) (o1 c6 (oT c24 (oc C25 (o1 c26 (o1 (GE.lit 1 (eI .i64) 0 [(w64 (a1 + 1))] (by intro x; rfl)) (o1 c27 (o1 (GE.app (e := (eI .i64)) (d := 0) (([] : List Int) ++ [(w64 (a1 - a0.f0))]) ([(w64 (a1 + 1))]) rfl (fun _ _ => CE.refl _) rfl) (oc C28 (o1 c29 (o1 (GE.lit 1 (eI .i64) 0 [(w64 (a1 + a0.f0))] (by intro x; rfl)) (o1 c30 (o1 (GE.app (e := (eI .i64)) (d := 0) ((([] : List Int) ++ [(w64 (a1 - a0.f0))]) ++ [(w64 (a1 + 1))]) ([(w64 (a1 + a0.f0))]) rfl (fun _ _ => CE.refl _) rfl) on))))))))))))))))))))))))
              · replace h := iq c29 h
                cases h
                exact rt func213 [.call C1, .b false, .call C3, .b true, rowe 21 (eI .i64) 0 ([(w64 (a1 - a0.f0))]), .op 22, .nil 19 321216 3 1, orow 321216 (eI .i64) 0 ([] : List Int), .aft 22, orow 321216 (eI .i64) 0 (([] : List Int) ++ [(w64 (a1 - a0.f0))]), .dec 28 true, .call C8, .b false, .dec 47 true, .call C25, .b true, rowe 56 (eI .i64) 0 ([(w64 (a1 + 1))]), .aft 57, orow 321216 (eI .i64) 0 ((([] : List Int) ++ [(w64 (a1 - a0.f0))]) ++ [(w64 (a1 + 1))]), .call C28, .b false, .fin] (oc C1 (o1 (bnf c2) (oc C3 (o1 c4 (o1 (GE.lit 1 (eI .i64) 0 [(w64 (a1 - a0.f0))] (by intro x; rfl)) (o1 (GE.nil (eI .i64) 0) (o1 c5 (o1 (GE.app (e := (eI .i64)) (d := 0) ([] : List Int) ([(w64 (a1 - a0.f0))]) rfl (fun _ _ => CE.refl _) rfl) (o1 c6 (oT c7 (oc C8 (o1 (eqf c9) (o1 c6 (oT c24 (oc C25 (o1 c26 (o1 (GE.lit 1 (eI .i64) 0 [(w64 (a1 + 1))] (by intro x; rfl)) (o1 c27 (o1 (GE.app (e := (eI .i64)) (d := 0) (([] : List Int) ++ [(w64 (a1 - a0.f0))]) ([(w64 (a1 + 1))]) rfl (fun _ _ => CE.refl _) rfl) (oc C28 (o1 (eqf c29) on)))))))))))))))))))))
            · replace h := iq c26 h
              obtain ⟨t10, g31, h⟩ := bindN h
              let C31 := mkCon (impl_isFree.ok a0 (w64 (a1 + a0.f0)) t10 g31) impl_isFree.go
              by_cases c32 : t10 = true
              · replace h := ip c32 h
                obtain ⟨c33, h⟩ := ifN h
                cases h
                exact rt func213 [.call C1, .b false, .call C3, .b true, rowe 21 (eI .i64) 0 ([(w64 (a1 - a0.f0))]), .op 22, .nil 19 321216 3 1, orow 321216 (eI .i64) 0 ([] : List Int), .aft 22, orow 321216 (eI .i64) 0 (([] : List Int) ++ [(w64 (a1 - a0.f0))]), .dec 28 true, .call C8, .b false, .dec 47 true, .call C25, .b false, .call C31, .b true, rowe 67 (eI .i64) 0 ([(w64 (a1 + a0.f0))]), .aft 68, orow 321216 (eI .i64) 0 ((([] : List Int) ++ [(w64 (a1 - a0.f0))]) ++ [(w64 (a1 + a0.f0))]), .fin] (oc C1 (o1 (bnf c2) (oc C3 (o1 c4 (o1 (GE.lit 1 (eI .i64) 0 [(w64 (a1 - a0.f0))] (by intro x; rfl)) (o1 (GE.nil (eI .i64) 0) (o1 c5 (o1 (GE.app (e := (eI .i64)) (d := 0) ([] : List Int) ([(w64 (a1 - a0.f0))]) rfl (fun _ _ => CE.refl _) rfl) (o1 c6 (oT c7 (oc C8 (o1 (eqf c9) (o1 c6 (oT c24 (oc C25 (o1 (eqf c26) (oc C31 (o1 c32 (o1 (GE.lit 1 (eI .i64) 0 [(w64 (a1 + a0.f0))] (by intro x; rfl)) (o1 c33 (o1 (GE.app (e := (eI .i64)) (d := 0) (([] : List Int) ++ [(w64 (a1 - a0.f0))]) ([(w64 (a1 + a0.f0))]) rfl (fun _ _ => CE.refl _) rfl) on)))))))))))))))))))))
              · replace h := iq c32 h
                cases h
                exact rt func213 [.call C1, .b false, .call C3, .b true, rowe 21 (eI .i64) 0 ([(w64 (a1 - a0.f0))]), .op 22, .nil 19 321216 3 1, orow 321216 (eI .i64) 0 ([] : List Int), .aft 22, orow 321216 (eI .i64) 0 (([] : List Int) ++ [(w64 (a1 - a0.f0))]), .dec 28 true, .call C8, .b false, .dec 47 true, .call C25, .b false, .call C31, .b false, .fin] (oc C1 (o1 (bnf c2) (oc C3 (o1 c4 (o1 (GE.lit 1 (eI .i64) 0 [(w64 (a1 - a0.f0))] (by intro x; rfl)) (o1 (GE.nil (eI .i64) 0) (o1 c5 (o1 (GE.app (e := (eI .i64)) (d := 0) ([] : List Int) ([(w64 (a1 - a0.f0))]) rfl (fun _ _ => CE.refl _) rfl) (o1 c6 (oT c7 (oc C8 (o1 (eqf c9) (o1 c6 (oT c24 (oc C25 (o1 (eqf c26) (oc C31 (o1 (eqf c32) on))))))))))))))))))
          · replace h := iq c24 h
            obtain ⟨t11, g34, h⟩ := bindN h
            let C34 := mkCon (impl_isFree.ok a0 (w64 (a1 + a0.f0)) t11 g34) impl_isFree.go
            by_cases c35 : t11 = true
            · replace h := ip c35 h
              obtain ⟨c36, h⟩ := ifN h
              cases h
              exact rt func213 [.call C1, .b false, .call C3, .b true, rowe 21 (eI .i64) 0 ([(w64 (a1 - a0.f0))]), .op 22, .nil 19 321216 3 1, orow 321216 (eI .i64) 0 ([] : List Int), .aft 22, orow 321216 (eI .i64) 0 (([] : List Int) ++ [(w64 (a1 - a0.f0))]), .dec 28 true, .call C8, .b false, .dec 47 false, .b false, .call C34, .b true, rowe 67 (eI .i64) 0 ([(w64 (a1 + a0.f0))]), .aft 68, orow 321216 (eI .i64) 0 ((([] : List Int) ++ [(w64 (a1 - a0.f0))]) ++ [(w64 (a1 + a0.f0))]), .fin] (oc C1 (o1 (bnf c2) (oc C3 (o1 c4 (o1 (GE.lit 1 (eI .i64) 0 [(w64 (a1 - a0.f0))] (by intro x; rfl)) (o1 (GE.nil (eI .i64) 0) (o1 c5 (o1 (GE.app (e := (eI .i64)) (d := 0) ([] : List Int) ([(w64 (a1 - a0.f0))]) rfl (fun _ _ => CE.refl _) rfl) (o1 c6 (oT c7 (oc C8 (o1 (eqf c9) (o1 c6 (oF c24 (o1 (rfl : false = false) (oc C34 (o1 c35 (o1 (GE.lit 1 (eI .i64) 0 [(w64 (a1 + a0.f0))] (by intro x; rfl)) (o1 c36 (o1 (GE.app (e := (eI .i64)) (d := 0) (([] : List Int) ++ [(w64 (a1 - a0.f0))]) ([(w64 (a1 + a0.f0))]) rfl (fun _ _ => CE.refl _) rfl) on))))))))))))))))))))
            · replace h := iq c35 h
              cases h
              exact rt func213 [.call C1, .b false, .call C3, .b true, rowe 21 (eI .i64) 0 ([(w64 (a1 - a0.f0))]), .op 22, .nil 19 321216 3 1, orow 321216 (eI .i64) 0 ([] : List Int), .aft 22, orow 321216 (eI .i64) 0 (([] : List Int) ++ [(w64 (a1 - a0.f0))]), .dec 28 true, .call C8, .b false, .dec 47 false, .b false, .call C34, .b false, .fin] (oc C1 (o1 (bnf c2) (oc C3 (o1 c4 (o1 (GE.lit 1 (eI .i64) 0 [(w64 (a1 - a0.f0))] (by intro x; rfl)) (o1 (GE.nil (eI .i64) 0) (o1 c5 (o1 (GE.app (e := (eI .i64)) (d := 0) ([] : List Int) ([(w64 (a1 - a0.f0))]) rfl (fun _ _ => CE.refl _) rfl) (o1 c6 (oT c7 (oc C8 (o1 (eqf c9) (o1 c6 (oF c24 (o1 (rfl : false = false) (oc C34 (o1 (eqf c35) on)))))))))))))))))
      · replace h := iq c7 h
        by_cases c37 : (a1.tmod a0.f0) < (w64 (a0.f0 - 1))
        · replace h := ip c37 h
          obtain ⟨t12, g38, h⟩ := bindN h
          let C38 := mkCon (impl_isFree.ok a0 (w64 (a1 + 1)) t12 g38) impl_isFree.go
          by_cases c39 : t12 = true
          · replace h := ip c39 h
            obtain ⟨c40, h⟩ := ifN h
            obtain ⟨t13, g41, h⟩ := bindN h
            let C41 := mkCon (impl_isFree.ok a0 (w64 (a1 + a0.f0)) t13 g41) impl_isFree.go
            by_cases c42 : t13 = true
            · replace h := ip c42 h
              obtain ⟨c43, h⟩ := ifN h
              cases h
              exact rt func213 [.call C1, .b false, .call C3, .b true, rowe 21 (eI .i64) 0 ([(w64 (a1 - a0.f0))]), .op 22, .nil 19 321216 3 1, orow 321216 (eI .i64) 0 ([] : List Int), .aft 22, orow 321216 (eI .i64) 0 (([] : List Int) ++ [(w64 (a1 - a0.f0))]), .dec 28 false, .b false, .dec 47 true, .call C38, .b true, rowe 56 (eI .i64) 0 ([(w64 (a1 + 1))]), .aft 57, orow 321216 (eI .i64) 0 ((([] : List Int) ++ [(w64 (a1 - a0.f0))]) ++ [(w64 (a1 + 1))]), .call C41, .b true, rowe 67 (eI .i64) 0 ([(w64 (a1 + a0.f0))]), .aft 68, orow 321216 (eI .i64) 0 (((([] : List Int) ++ [(w64 (a1 - a0.f0))]) ++ [(w64 (a1 + 1))]) ++ [(w64 (a1 + a0.f0))]), .fin] (oc C1 (o1 (bnf c2) (oc C3 (o1 c4 (o1 (GE.lit 1 (eI .i64) 0 [(w64 (a1 - a0.f0))] (by intro x; rfl)) (o1 (GE.nil (eI .i64) 0) (o1 c5 (o1 (GE.app (e := (eI .i64)) (d := 0) ([] : List Int) ([(w64 (a1 - a0.f0))]) rfl (fun _ _ => CE.refl _) rfl) (o1 c6 (oF c7 (o1 (rfl : false = false) (o1 c6 (oT c37 (oc C38 (o1 c39 (o1 (GE.lit 1 (eI .i64) 0 [(w64 (a1 + 1))] (by intro x; rfl)) (o1 c40 (o1 (GE.app (e := (eI .i64)) (d := 0) (([] : List Int) ++ [(w64 (a1 - a0.f0))]) ([(w64 (a1 + 1))]) rfl (fun _ _ => CE.refl _) rfl) (oc C41 (o1 c42 (o1 (GE.lit 1 (eI .i64) 0 [(w64 (a1 + a0.f0))] (by intro x; rfl)) (o1 c43 (o1 (GE.app (e := (eI .i64)) (d := 0) ((([] : List Int) ++ [(w64 (a1 - a0.f0))]) ++ [(w64 (a1 + 1))]) ([(w64 (a1 + a0.f0))]) rfl (fun _ _ => CE.refl _) rfl) on)))))))))))))))))))))))
            · replace h := iq c42 h
              cases h
              exact rt func213 [.call C1, .b false, .call C3, .b true, rowe 21 (eI .i64) 0 ([(w64 (a1 - a0.f0))]), .op 22, .nil 19 321216 3 1, orow 321216 (eI .i64) 0 ([] : List Int), .aft 22, orow 321216 (eI .i64) 0 (([] : List Int) ++ [(w64 (a1 - a0.f0))]), .dec 28 false, .b false, .dec 47 true, .call C38, .b true, rowe 56 (eI .i64) 0 ([(w64 (a1 + 1))]), .aft 57, orow 321216 (eI .i64) 0 ((([] : List Int) ++ [(w64 (a1 - a0.f0))]) ++ [(w64 (a1 + 1))]), .call C41, .b false, .fin] (oc C1 (o1 (bnf c2) (oc C3 (o1 c4 (o1 (GE.lit 1 (eI .i64) 0 [(w64 (a1 - a0.f0))] (by intro x; rfl)) (o1 (GE.nil (eI .i64) 0) (o1 c5 (o1 (GE.app (e := (eI .i64)) (d := 0) ([] : List Int) ([(w64 (a1 - a0.f0))]) rfl (fun _ _ => CE.refl _) rfl) (o1 c6 (oF c7 (o1 (rfl : false = false) (o1 c6 (oT c37 (oc C38 (o1 c39 (o1 (GE.lit 1 (eI .i64) 0 [(w64 (a1 + 1))] (by intro x; rfl)) (o1 c40 (o1 (GE.app (e := (eI .i64)) (d := 0) (([] : List Int) ++ [(w64 (a1 - a0.f0))]) ([(w64 (a1 + 1))]) rfl (fun _ _ => CE.refl _) rfl) (oc C41 (o1 (eqf c42) on))))))))))))))))))))
          · replace h := iq c39 h
            obtain ⟨t14, g44, h⟩ := bindN h
            let C44 := mkCon (impl_isFree.ok a0 (w64 (a1 + a0.f0)) t14 g44) impl_isFree.go
            by_cases c45 : t14 = true
            · replace h := ip c45 h
              obtain ⟨c46, h⟩ := ifN h
              cases h
              exact rt func213 [.call C1, .b false, .call C3, .b true, rowe 21 (eI .i64) 0 ([(w64 (a1 - a0.f0))]), .op 22, .nil 19 321216 3 1, orow 321216 (eI .i64) 0 ([] : List Int), .aft 22, orow 321216 (eI .i64) 0 (([] : List Int) ++ [(w64 (a1 - a0.f0))]), .dec 28 false, .b false, .dec 47 true, .call C38, .b false, .call C44, .b true, rowe 67 (eI .i64) 0 ([(w64 (a1 + a0.f0))]), .aft 68, orow 321216 (eI .i64) 0 ((([] : List Int) ++ [(w64 (a1 - a0.f0))]) ++ [(w64 (a1 + a0.f0))]), .fin] (oc C1 (o1 (bnf c2) (oc C3 (o1 c4 (o1 (GE.lit 1 (eI .i64) 0 [(w64 (a1 - a0.f0))] (by intro x; rfl)) (o1 (GE.nil (eI .i64) 0) (o1 c5 (o1 (GE.app (e := (eI .i64)) (d := 0) ([] : List Int) ([(w64 (a1 - a0.f0))]) rfl (fun _ _ => CE.refl _) rfl) (o1 c6 (oF c7 (o1 (rfl : false = false) (o1 c6 (oT c37 (oc C38 (o1 (eqf c39) (oc C44 (o1 c45 (o1 (GE.lit 1 (eI .i64) 0 [(w64 (a1 + a0.f0))] (by intro x; rfl)) (o1 c46 (o1 (GE.app (e := (eI .i64)) (d := 0) (([] : List Int) ++ [(w64 (a1 - a0.f0))]) ([(w64 (a1 + a0.f0))]) rfl (fun _ _ => CE.refl _) rfl) on))))))))))))))))))))
            · replace h := iq c45 h
              cases h
              exact rt func213 [.call C1, .b false, .call C3, .b true, rowe 21 (eI .i64) 0 ([(w64 (a1 - a0.f0))]), .op 22, .nil 19 321216 3 1, orow 321216 (eI .i64) 0 ([] : List Int), .aft 22, orow 321216 (eI .i64) 0 (([] : List Int) ++ [(w64 (a1 - a0.f0))]), .dec 28 false, .b false, .dec 47 true, .call C38, .b false, .call C44, .b false, .fin] (oc C1 (o1 (bnf c2) (oc C3 (o1 c4 (o1 (GE.lit 1 (eI .i64) 0 [(w64 (a1 - a0.f0))] (by intro x; rfl)) (o1 (GE.nil (eI .i64) 0) (o1 c5 (o1 (GE.app (e := (eI .i64)) (d := 0) ([] : List Int) ([(w64 (a1 - a0.f0))]) rfl (fun _ _ => CE.refl _) rfl) (o1 c6 (oF c7 (o1 (rfl : false = false) (o1 c6 (oT c37 (oc C38 (o1 (eqf c39) (oc C44 (o1 (eqf c45) on)))))))))))))))))
        · replace h := iq c37 h
          obtain ⟨t15, g47, h⟩ := bindN h
          let C47 := mkCon (impl_isFree.ok a0 (w64 (a1 + a0.f0)) t15 g47) impl_isFree.go
          by_cases c48 : t15 = true
          · replace h := ip c48 h
            obtain ⟨c49, h⟩ := ifN h
            cases h
            exact rt func213 [.call C1, .b false, .call C3, .b true, rowe 21 (eI .i64) 0 ([(w64 (a1 - a0.f0))]), .op 22, .nil 19 321216 3 1, orow 321216 (eI .i64) 0 ([] : List Int), .aft 22, orow 321216 (eI .i64) 0 (([] : List Int) ++ [(w64 (a1 - a0.f0))]), .dec 28 false, .b false, .dec 47 false, .b false, .call C47, .b true, rowe 67 (eI .i64) 0 ([(w64 (a1 + a0.f0))]), .aft 68, orow 321216 (eI .i64) 0 ((([] : List Int) ++ [(w64 (a1 - a0.f0))]) ++ [(w64 (a1 + a0.f0))]), .fin] (oc C1 (o1 (bnf c2) (oc C3 (o1 c4 (o1 (GE.lit 1 (eI .i64) 0 [(w64 (a1 - a0.f0))] (by intro x; rfl)) (o1 (GE.nil (eI .i64) 0) (o1 c5 (o1 (GE.app (e := (eI .i64)) (d := 0) ([] : List Int) ([(w64 (a1 - a0.f0))]) rfl (fun _ _ => CE.refl _) rfl) (o1 c6 (oF c7 (o1 (rfl : false = false) (o1 c6 (oF c37 (o1 (rfl : false = false) (oc C47 (o1 c48 (o1 (GE.lit 1 (eI .i64) 0 [(w64 (a1 + a0.f0))] (by intro x; rfl)) (o1 c49 (o1 (GE.app (e := (eI .i64)) (d := 0) (([] : List Int) ++ [(w64 (a1 - a0.f0))]) ([(w64 (a1 + a0.f0))]) rfl (fun _ _ => CE.refl _) rfl) on)))))))))))))))))))
          · replace h := iq c48 h
            cases h
            exact rt func213 [.call C1, .b false, .call C3, .b true, rowe 21 (eI .i64) 0 ([(w64 (a1 - a0.f0))]), .op 22, .nil 19 321216 3 1, orow 321216 (eI .i64) 0 ([] : List Int), .aft 22, orow 321216 (eI .i64) 0 (([] : List Int) ++ [(w64 (a1 - a0.f0))]), .dec 28 false, .b false, .dec 47 false, .b false, .call C47, .b false, .fin] (oc C1 (o1 (bnf c2) (oc C3 (o1 c4 (o1 (GE.lit 1 (eI .i64) 0 [(w64 (a1 - a0.f0))] (by intro x; rfl)) (o1 (GE.nil (eI .i64) 0) (o1 c5 (o1 (GE.app (e := (eI .i64)) (d := 0) ([] : List Int) ([(w64 (a1 - a0.f0))]) rfl (fun _ _ => CE.refl _) rfl) (o1 c6 (oF c7 (o1 (rfl : false = false) (o1 c6 (oF c37 (o1 (rfl : false = false) (oc C47 (o1 (eqf c48) on))))))))))))))))
    · replace h := iq c4 h
      obtain ⟨c50, h⟩ := ifN h
      by_cases c51 : 0 < (a1.tmod a0.f0)
      · replace h := ip c51 h
        obtain ⟨t16, g52, h⟩ := bindN h
        let C52 := mkCon (impl_isFree.ok a0 (w64 (a1 - 1)) t16 g52) impl_isFree.go
        by_cases c53 : t16 = true
        · replace h := ip c53 h
          obtain ⟨c54, h⟩ := ifN h
          by_cases c55 : (a1.tmod a0.f0) < (w64 (a0.f0 - 1))
          · replace h := ip c55 h
            obtain ⟨t17, g56, h⟩ := bindN h
            let C56 := mkCon (impl_isFree.ok a0 (w64 (a1 + 1)) t17 g56) impl_isFree.go
            by_cases c57 : t17 = true
            · replace h := ip c57 h
              obtain ⟨c58, h⟩ := ifN h
              obtain ⟨t18, g59, h⟩ := bindN h
              let C59 := mkCon (impl_isFree.ok a0 (w64 (a1 + a0.f0)) t18 g59) impl_isFree.go
              by_cases c60 : t18 = true
              · replace h := ip c60 h
                obtain ⟨c61, h⟩ := ifN h
                cases h
                exact rt func213 [.call C1, .b false, .call C3, .b false, .dec 28 true, .call C52, .b true, rowe 37 (eI .i64) 0 ([(w64 (a1 - 1))]), .op 38, .nil 34 322176 3 1, orow 322176 (eI .i64) 0 ([] : List Int), .aft 38, orow 322176 (eI .i64) 0 (([] : List Int) ++ [(w64 (a1 - 1))]), .dec 47 true, .call C56, .b true, rowe 56 (eI .i64) 0 ([(w64 (a1 + 1))]), .aft 57, orow 322176 (eI .i64) 0 ((([] : List Int) ++ [(w64 (a1 - 1))]) ++ [(w64 (a1 + 1))]), .call C59, .b true, rowe 67 (eI .i64) 0 ([(w64 (a1 + a0.f0))]), .aft 68, orow 322176 (eI .i64) 0 (((([] : List Int) ++ [(w64 (a1 - 1))]) ++ [(w64 (a1 + 1))]) ++ [(w64 (a1 + a0.f0))]), .fin] (oc C1 (o1 (bnf c2) (oc C3 (o1 (eqf c4) (o1 c50 (oT c51 (oc C52 (o1 c53 (o1 (GE.lit 1 (eI .i64) 0 [(w64 (a1 - 1))] (by intro x; rfl)) (o1 (GE.nil (eI .i64) 0) (o1 c54 (o1 (GE.app (e := (eI .i64)) (d := 0) ([] : List Int) ([(w64 (a1 - 1))]) rfl (fun _ _ => CE.refl _) rfl) (o1 c50 (oT c55 (oc C56 (o1 c57 (o1 (GE.lit 1 (eI .i64) 0 [(w64 (a1 + 1))] (by intro x; rfl)) (o1 c58 (o1 (GE.app (e := (eI .i64)) (d := 0) (([] : List Int) ++ [(w64 (a1 - 1))]) ([(w64 (a1 + 1))]) rfl (fun _ _ => CE.refl _) rfl) (oc C59 (o1 c60 (o1 (GE.lit 1 (eI .i64) 0 [(w64 (a1 + a0.f0))] (by intro x; rfl)) (o1 c61 (o1 (GE.app (e := (eI .i64)) (d := 0) ((([] : List Int) ++ [(w64 (a1 - 1))]) ++ [(w64 (a1 + 1))]) ([(w64 (a1 + a0.f0))]) rfl (fun _ _ => CE.refl _) rfl) on))))))))))))))))))))))))
              · replace h := iq c60 h
                cases h
                exact rt func213 [.call C1, .b false, .call C3, .b false, .dec 28 true, .call C52, .b true, rowe 37 (eI .i64) 0 ([(w64 (a1 - 1))]), .op 38, .nil 34 322176 3 1, orow 322176 (eI .i64) 0 ([] : List Int), .aft 38, orow 322176 (eI .i64) 0 (([] : List Int) ++ [(w64 (a1 - 1))]), .dec 47 true, .call C56, .b true, rowe 56 (eI .i64) 0 ([(w64 (a1 + 1))]), .aft 57, orow 322176 (eI .i64) 0 ((([] : List Int) ++ [(w64 (a1 - 1))]) ++ [(w64 (a1 + 1))]), .call C59, .b false, .fin] (oc C1 (o1 (bnf c2) (oc C3 (o1 (eqf c4) (o1 c50 (oT c51 (oc C52 (o1 c53 (o1 (GE.lit 1 (eI .i64) 0 [(w64 (a1 - 1))] (by intro x; rfl)) (o1 (GE.nil (eI .i64) 0) (o1 c54 (o1 (GE.app (e := (eI .i64)) (d := 0) ([] : List Int) ([(w64 (a1 - 1))]) rfl (fun _ _ => CE.refl _) rfl) (o1 c50 (oT c55 (oc C56 (o1 c57 (o1 (GE.lit 1 (eI .i64) 0 [(w64 (a1 + 1))] (by intro x; rfl)) (o1 c58 (o1 (GE.app (e := (eI .i64)) (d := 0) (([] : List Int) ++ [(w64 (a1 - 1))]) ([(w64 (a1 + 1))]) rfl (fun _ _ => CE.refl _) rfl) (oc C59 (o1 (eqf c60) on)))))))))))))))))))))
            · replace h := iq c57 h
              obtain ⟨t19, g62, h⟩ := bindN h
              let C62 := mkCon (impl_isFree.ok a0 (w64 (a1 + a0.f0)) t19 g62) impl_isFree.go
              by_cases c63 : t19 = true
              · replace h := ip c63 h
                obtain ⟨c64, h⟩ := ifN h
                cases h
                exact rt func213 [.call C1, .b false, .call C3, .b false, .dec 28 true, .call C52, .b true, rowe 37 (eI .i64) 0 ([(w64 (a1 - 1))]), .op 38, .nil 34 322176 3 1, orow 322176 (eI .i64) 0 ([] : List Int), .aft 38, orow 322176 (eI .i64) 0 (([] : List Int) ++ [(w64 (a1 - 1))]), .dec 47 true, .call C56, .b false, .call C62, .b true, rowe 67 (eI .i64) 0 ([(w64 (a1 + a0.f0))]), .aft 68, orow 322176 (eI .i64) 0 ((([] : List Int) ++ [(w64 (a1 - 1))]) ++ [(w64 (a1 + a0.f0))]), .fin] (oc C1 (o1 (bnf c2) (oc C3 (o1 (eqf c4) (o1 c50 (oT c51 (oc C52 (o1 c53 (o1 (GE.lit 1 (eI .i64) 0 [(w64 (a1 - 1))] (by intro x; rfl)) (o1 (GE.nil (eI .i64) 0) (o1 c54 (o1 (GE.app (e := (eI .i64)) (d := 0) ([] : List Int) ([(w64 (a1 - 1))]) rfl (fun _ _ => CE.refl _) rfl) (o1 c50 (oT c55 (oc C56 (o1 (eqf c57) (oc C62 (o1 c63 (o1 (GE.lit 1 (eI .i64) 0 [(w64 (a1 + a0.f0))] (by intro x; rfl)) (o1 c64 (o1 (GE.app (e := (eI .i64)) (d := 0) (([] : List Int) ++ [(w64 (a1 - 1))]) ([(w64 (a1 + a0.f0))]) rfl (fun _ _ => CE.refl _) rfl) on)))))))))))))))))))))
              · replace h := iq c63 h
                cases h
                exact rt func213 [.call C1, .b false, .call C3, .b false, .dec 28 true, .call C52, .b true, rowe 37 (eI .i64) 0 ([(w64 (a1 - 1))]), .op 38, .nil 34 322176 3 1, orow 322176 (eI .i64) 0 ([] : List Int), .aft 38, orow 322176 (eI .i64) 0 (([] : List Int) ++ [(w64 (a1 - 1))]), .dec 47 true, .call C56, .b false, .call C62, .b false, .fin] (oc C1 (o1 (bnf c2) (oc C3 (o1 (eqf c4) (o1 c50 (oT c51 (oc C52 (o1 c53 (o1 (GE.lit 1 (eI .i64) 0 [(w64 (a1 - 1))] (by intro x; rfl)) (o1 (GE.nil (eI .i64) 0) (o1 c54 (o1 (GE.app (e := (eI .i64)) (d := 0) ([] : List Int) ([(w64 (a1 - 1))]) rfl (fun _ _ => CE.refl _) rfl) (o1 c50 (oT c55 (oc C56 (o1 (eqf c57) (oc C62 (o1 (eqf c63) on))))))))))))))))))
          · replace h := iq c55 h
            obtain ⟨t20, g65, h⟩ := bindN h
            let C65 := mkCon (impl_isFree.ok a0 (w64 (a1 + a0.f0)) t20 g65) impl_isFree.go
            by_cases c66 : t20 = true
            · replace h := ip c66 h
              obtain ⟨c67, h⟩ := ifN h
              cases h
              exact rt func213 [.call C1, .b false, .call C3, .b false, .dec 28 true, .call C52, .b true, rowe 37 (eI .i64) 0 ([(w64 (a1 - 1))]), .op 38, .nil 34 322176 3 1, orow 322176 (eI .i64) 0 ([] : List Int), .aft 38, orow 322176 (eI .i64) 0 (([] : List Int) ++ [(w64 (a1 - 1))]), .dec 47 false, .b false, .call C65, .b true, rowe 67 (eI .i64) 0 ([(w64 (a1 + a0.f0))]), .aft 68, orow 322176 (eI .i64) 0 ((([] : List Int) ++ [(w64 (a1 - 1))]) ++ [(w64 (a1 + a0.f0))]), .fin] (oc C1 (o1 (bnf c2) (oc C3 (o1 (eqf c4) (o1 c50 (oT c51 (oc C52 (o1 c53 (o1 (GE.lit 1 (eI .i64) 0 [(w64 (a1 - 1))] (by intro x; rfl)) (o1 (GE.nil (eI .i64) 0) (o1 c54 (o1 (GE.app (e := (eI .i64)) (d := 0) ([] : List Int) ([(w64 (a1 - 1))]) rfl (fun _ _ => CE.refl _) rfl) (o1 c50 (oF c55 (o1 (rfl : false = false) (oc C65 (o1 c66 (o1 (GE.lit 1 (eI .i64) 0 [(w64 (a1 + a0.f0))] (by intro x; rfl)) (o1 c67 (o1 (GE.app (e := (eI .i64)) (d := 0) (([] : List Int) ++ [(w64 (a1 - 1))]) ([(w64 (a1 + a0.f0))]) rfl (fun _ _ => CE.refl _) rfl) on))))))))))))))))))))
            · replace h := iq c66 h
              cases h
              exact rt func213 [.call C1, .b false, .call C3, .b false, .dec 28 true, .call C52, .b true, rowe 37 (eI .i64) 0 ([(w64 (a1 - 1))]), .op 38, .nil 34 322176 3 1, orow 322176 (eI .i64) 0 ([] : List Int), .aft 38, orow 322176 (eI .i64) 0 (([] : List Int) ++ [(w64 (a1 - 1))]), .dec 47 false, .b false, .call C65, .b false, .fin] (oc C1 (o1 (bnf c2) (oc C3 (o1 (eqf c4) (o1 c50 (oT c51 (oc C52 (o1 c53 (o1 (GE.lit 1 (eI .i64) 0 [(w64 (a1 - 1))] (by intro x; rfl)) (o1 (GE.nil (eI .i64) 0) (o1 c54 (o1 (GE.app (e := (eI .i64)) (d := 0) ([] : List Int) ([(w64 (a1 - 1))]) rfl (fun _ _ => CE.refl _) rfl) (o1 c50 (oF c55 (o1 (rfl : false = false) (oc C65 (o1 (eqf c66) on)))))))))))))))))
        · replace h := iq c53 h
          by_cases c68 : (a1.tmod a0.f0) < (w64 (a0.f0 - 1))
          · replace h := ip c68 h
            obtain ⟨t21, g69, h⟩ := bindN h
            let C69 := mkCon (impl_isFree.ok a0 (w64 (a1 + 1)) t21 g69) impl_isFree.go
            by_cases c70 : t21 = true
            · replace h := ip c70 h
              obtain ⟨c71, h⟩ := ifN h
              obtain ⟨t22, g72, h⟩ := bindN h
              let C72 := mkCon (impl_isFree.ok a0 (w64 (a1 + a0.f0)) t22 g72) impl_isFree.go
              by_cases c73 : t22 = true
              · replace h := ip c73 h
                obtain ⟨c74, h⟩ := ifN h
                cases h
                exact rt func213 [.call C1, .b false, .call C3, .b false, .dec 28 true, .call C52, .b false, .dec 47 true, .call C69, .b true, rowe 56 (eI .i64) 0 ([(w64 (a1 + 1))]), .op 57, .nil 53 323392 3 1, orow 323392 (eI .i64) 0 ([] : List Int), .aft 57, orow 323392 (eI .i64) 0 (([] : List Int) ++ [(w64 (a1 + 1))]), .call C72, .b true, rowe 67 (eI .i64) 0 ([(w64 (a1 + a0.f0))]), .aft 68, orow 323392 (eI .i64) 0 ((([] : List Int) ++ [(w64 (a1 + 1))]) ++ [(w64 (a1 + a0.f0))]), .fin] (oc C1 (o1 (bnf c2) (oc C3 (o1 (eqf c4) (o1 c50 (oT c51 (oc C52 (o1 (eqf c53) (o1 c50 (oT c68 (oc C69 (o1 c70 (o1 (GE.lit 1 (eI .i64) 0 [(w64 (a1 + 1))] (by intro x; rfl)) (o1 (GE.nil (eI .i64) 0) (o1 c71 (o1 (GE.app (e := (eI .i64)) (d := 0) ([] : List Int) ([(w64 (a1 + 1))]) rfl (fun _ _ => CE.refl _) rfl) (oc C72 (o1 c73 (o1 (GE.lit 1 (eI .i64) 0 [(w64 (a1 + a0.f0))] (by intro x; rfl)) (o1 c74 (o1 (GE.app (e := (eI .i64)) (d := 0) (([] : List Int) ++ [(w64 (a1 + 1))]) ([(w64 (a1 + a0.f0))]) rfl (fun _ _ => CE.refl _) rfl) on)))))))))))))))))))))
              · replace h := iq c73 h
                cases h
                exact rt func213 [.call C1, .b false, .call C3, .b false, .dec 28 true, .call C52, .b false, .dec 47 true, .call C69, .b true, rowe 56 (eI .i64) 0 ([(w64 (a1 + 1))]), .op 57, .nil 53 323392 3 1, orow 323392 (eI .i64) 0 ([] : List Int), .aft 57, orow 323392 (eI .i64) 0 (([] : List Int) ++ [(w64 (a1 + 1))]), .call C72, .b false, .fin] (oc C1 (o1 (bnf c2) (oc C3 (o1 (eqf c4) (o1 c50 (oT c51 (oc C52 (o1 (eqf c53) (o1 c50 (oT c68 (oc C69 (o1 c70 (o1 (GE.lit 1 (eI .i64) 0 [(w64 (a1 + 1))] (by intro x; rfl)) (o1 (GE.nil (eI .i64) 0) (o1 c71 (o1 (GE.app (e := (eI .i64)) (d := 0) ([] : List Int) ([(w64 (a1 + 1))]) rfl (fun _ _ => CE.refl _) rfl) (oc C72 (o1 (eqf c73) on))))))))))))))))))
            · replace h := iq c70 h
              obtain ⟨t23, g75, h⟩ := bindN h
              let C75 := mkCon (impl_isFree.ok a0 (w64 (a1 + a0.f0)) t23 g75) impl_isFree.go
              by_cases c76 : t23 = true
              · replace h := ip c76 h
                obtain ⟨c77, h⟩ := ifN h
                cases h
                exact rt func213 [.call C1, .b false, .call C3, .b false, .dec 28 true, .call C52, .b false, .dec 47 true, .call C69, .b false, .call C75, .b true, rowe 67 (eI .i64) 0 ([(w64 (a1 + a0.f0))]), .op 68, .nil 65 324160 3 1, orow 324160 (eI .i64) 0 ([] : List Int), .aft 68, orow 324160 (eI .i64) 0 (([] : List Int) ++ [(w64 (a1 + a0.f0))]), .fin] (oc C1 (o1 (bnf c2) (oc C3 (o1 (eqf c4) (o1 c50 (oT c51 (oc C52 (o1 (eqf c53) (o1 c50 (oT c68 (oc C69 (o1 (eqf c70) (oc C75 (o1 c76 (o1 (GE.lit 1 (eI .i64) 0 [(w64 (a1 + a0.f0))] (by intro x; rfl)) (o1 (GE.nil (eI .i64) 0) (o1 c77 (o1 (GE.app (e := (eI .i64)) (d := 0) ([] : List Int) ([(w64 (a1 + a0.f0))]) rfl (fun _ _ => CE.refl _) rfl) on))))))))))))))))))
              · replace h := iq c76 h
                cases h
                exact rt func213 [.call C1, .b false, .call C3, .b false, .dec 28 true, .call C52, .b false, .dec 47 true, .call C69, .b false, .call C75, .b false, .fin, .nil 4 384256 3 1, orow 384256 (eI .i64) 0 ([] : List Int)] (oc C1 (o1 (bnf c2) (oc C3 (o1 (eqf c4) (o1 c50 (oT c51 (oc C52 (o1 (eqf c53) (o1 c50 (oT c68 (oc C69 (o1 (eqf c70) (oc C75 (o1 (eqf c76) (o1 (GE.nil (eI .i64) 0) on)))))))))))))))
          · replace h := iq c68 h
            obtain ⟨t24, g78, h⟩ := bindN h
            let C78 := mkCon (impl_isFree.ok a0 (w64 (a1 + a0.f0)) t24 g78) impl_isFree.go
            by_cases c79 : t24 = true
            · replace h := ip c79 h
              obtain ⟨c80, h⟩ := ifN h
              cases h
              exact rt func213 [.call C1, .b false, .call C3, .b false, .dec 28 true, .call C52, .b false, .dec 47 false, .b false, .call C78, .b true, rowe 67 (eI .i64) 0 ([(w64 (a1 + a0.f0))]), .op 68, .nil 65 324160 3 1, orow 324160 (eI .i64) 0 ([] : List Int), .aft 68, orow 324160 (eI .i64) 0 (([] : List Int) ++ [(w64 (a1 + a0.f0))]), .fin] (oc C1 (o1 (bnf c2) (oc C3 (o1 (eqf c4) (o1 c50 (oT c51 (oc C52 (o1 (eqf c53) (o1 c50 (oF c68 (o1 (rfl : false = false) (oc C78 (o1 c79 (o1 (GE.lit 1 (eI .i64) 0 [(w64 (a1 + a0.f0))] (by intro x; rfl)) (o1 (GE.nil (eI .i64) 0) (o1 c80 (o1 (GE.app (e := (eI .i64)) (d := 0) ([] : List Int) ([(w64 (a1 + a0.f0))]) rfl (fun _ _ => CE.refl _) rfl) on)))))))))))))))))
            · replace h := iq c79 h
              cases h
              exact rt func213 [.call C1, .b false, .call C3, .b false, .dec 28 true, .call C52, .b false, .dec 47 false, .b false, .call C78, .b false, .fin, .nil 4 384256 3 1, orow 384256 (eI .i64) 0 ([] : List Int)] (oc C1 (o1 (bnf c2) (oc C3 (o1 (eqf c4) (o1 c50 (oT c51 (oc C52 (o1 (eqf c53) (o1 c50 (oF c68 (o1 (rfl : false = false) (oc C78 (o1 (eqf c79) (o1 (GE.nil (eI .i64) 0) on))))))))))))))
      · replace h := iq c51 h
        by_cases c81 : (a1.tmod a0.f0) < (w64 (a0.f0 - 1))
        · replace h := ip c81 h
          obtain ⟨t25, g82, h⟩ := bindN h
          let C82 := mkCon (impl_isFree.ok a0 (w64 (a1 + 1)) t25 g82) impl_isFree.go
          by_cases c83 : t25 = true
          · replace h := ip c83 h
            obtain ⟨c84, h⟩ := ifN h
            obtain ⟨t26, g85, h⟩ := bindN h
            let C85 := mkCon (impl_isFree.ok a0 (w64 (a1 + a0.f0)) t26 g85) impl_isFree.go
            by_cases c86 : t26 = true
            · replace h := ip c86 h
              obtain ⟨c87, h⟩ := ifN h
              cases h
              exact rt func213 [.call C1, .b false, .call C3, .b false, .dec 28 false, .b false, .dec 47 true, .call C82, .b true, rowe 56 (eI .i64) 0 ([(w64 (a1 + 1))]), .op 57, .nil 53 323392 3 1, orow 323392 (eI .i64) 0 ([] : List Int), .aft 57, orow 323392 (eI .i64) 0 (([] : List Int) ++ [(w64 (a1 + 1))]), .call C85, .b true, rowe 67 (eI .i64) 0 ([(w64 (a1 + a0.f0))]), .aft 68, orow 323392 (eI .i64) 0 ((([] : List Int) ++ [(w64 (a1 + 1))]) ++ [(w64 (a1 + a0.f0))]), .fin] (oc C1 (o1 (bnf c2) (oc C3 (o1 (eqf c4) (o1 c50 (oF c51 (o1 (rfl : false = false) (o1 c50 (oT c81 (oc C82 (o1 c83 (o1 (GE.lit 1 (eI .i64) 0 [(w64 (a1 + 1))] (by intro x; rfl)) (o1 (GE.nil (eI .i64) 0) (o1 c84 (o1 (GE.app (e := (eI .i64)) (d := 0) ([] : List Int) ([(w64 (a1 + 1))]) rfl (fun _ _ => CE.refl _) rfl) (oc C85 (o1 c86 (o1 (GE.lit 1 (eI .i64) 0 [(w64 (a1 + a0.f0))] (by intro x; rfl)) (o1 c87 (o1 (GE.app (e := (eI .i64)) (d := 0) (([] : List Int) ++ [(w64 (a1 + 1))]) ([(w64 (a1 + a0.f0))]) rfl (fun _ _ => CE.refl _) rfl) on))))))))))))))))))))
            · replace h := iq c86 h
              cases h
              exact rt func213 [.call C1, .b false, .call C3, .b false, .dec 28 false, .b false, .dec 47 true, .call C82, .b true, rowe 56 (eI .i64) 0 ([(w64 (a1 + 1))]), .op 57, .nil 53 323392 3 1, orow 323392 (eI .i64) 0 ([] : List Int), .aft 57, orow 323392 (eI .i64) 0 (([] : List Int) ++ [(w64 (a1 + 1))]), .call C85, .b false, .fin] (oc C1 (o1 (bnf c2) (oc C3 (o1 (eqf c4) (o1 c50 (oF c51 (o1 (rfl : false = false) (o1 c50 (oT c81 (oc C82 (o1 c83 (o1 (GE.lit 1 (eI .i64) 0 [(w64 (a1 + 1))] (by intro x; rfl)) (o1 (GE.nil (eI .i64) 0) (o1 c84 (o1 (GE.app (e := (eI .i64)) (d := 0) ([] : List Int) ([(w64 (a1 + 1))]) rfl (fun _ _ => CE.refl _) rfl) (oc C85 (o1 (eqf c86) on)))))))))))))))))
          · replace h := iq c83 h
            obtain ⟨t27, g88, h⟩ := bindN h
            let C88 := mkCon (impl_isFree.ok a0 (w64 (a1 + a0.f0)) t27 g88) impl_isFree.go
            by_cases c89 : t27 = true
            · replace h := ip c89 h
              obtain ⟨c90, h⟩ := ifN h
              cases h
              exact rt func213 [.call C1, .b false, .call C3, .b false, .dec 28 false, .b false, .dec 47 true, .call C82, .b false, .call C88, .b true, rowe 67 (eI .i64) 0 ([(w64 (a1 + a0.f0))]), .op 68, .nil 65 324160 3 1, orow 324160 (eI .i64) 0 ([] : List Int), .aft 68, orow 324160 (eI .i64) 0 (([] : List Int) ++ [(w64 (a1 + a0.f0))]), .fin] (oc C1 (o1 (bnf c2) (oc C3 (o1 (eqf c4) (o1 c50 (oF c51 (o1 (rfl : false = false) (o1 c50 (oT c81 (oc C82 (o1 (eqf c83) (oc C88 (o1 c89 (o1 (GE.lit 1 (eI .i64) 0 [(w64 (a1 + a0.f0))] (by intro x; rfl)) (o1 (GE.nil (eI .i64) 0) (o1 c90 (o1 (GE.app (e := (eI .i64)) (d := 0) ([] : List Int) ([(w64 (a1 + a0.f0))]) rfl (fun _ _ => CE.refl _) rfl) on)))))))))))))))))
            · replace h := iq c89 h
              cases h
              exact rt func213 [.call C1, .b false, .call C3, .b false, .dec 28 false, .b false, .dec 47 true, .call C82, .b false, .call C88, .b false, .fin, .nil 4 384256 3 1, orow 384256 (eI .i64) 0 ([] : List Int)] (oc C1 (o1 (bnf c2) (oc C3 (o1 (eqf c4) (o1 c50 (oF c51 (o1 (rfl : false = false) (o1 c50 (oT c81 (oc C82 (o1 (eqf c83) (oc C88 (o1 (eqf c89) (o1 (GE.nil (eI .i64) 0) on))))))))))))))
        · replace h := iq c81 h
          obtain ⟨t28, g91, h⟩ := bindN h
          let C91 := mkCon (impl_isFree.ok a0 (w64 (a1 + a0.f0)) t28 g91) impl_isFree.go
          by_cases c92 : t28 = true
          · replace h := ip c92 h
            obtain ⟨c93, h⟩ := ifN h
            cases h
            exact rt func213 [.call C1, .b false, .call C3, .b false, .dec 28 false, .b false, .dec 47 false, .b false, .call C91, .b true, rowe 67 (eI .i64) 0 ([(w64 (a1 + a0.f0))]), .op 68, .nil 65 324160 3 1, orow 324160 (eI .i64) 0 ([] : List Int), .aft 68, orow 324160 (eI .i64) 0 (([] : List Int) ++ [(w64 (a1 + a0.f0))]), .fin] (oc C1 (o1 (bnf c2) (oc C3 (o1 (eqf c4) (o1 c50 (oF c51 (o1 (rfl : false = false) (o1 c50 (oF c81 (o1 (rfl : false = false) (oc C91 (o1 c92 (o1 (GE.lit 1 (eI .i64) 0 [(w64 (a1 + a0.f0))] (by intro x; rfl)) (o1 (GE.nil (eI .i64) 0) (o1 c93 (o1 (GE.app (e := (eI .i64)) (d := 0) ([] : List Int) ([(w64 (a1 + a0.f0))]) rfl (fun _ _ => CE.refl _) rfl) on))))))))))))))))
          · replace h := iq c92 h
            cases h
            exact rt func213 [.call C1, .b false, .call C3, .b false, .dec 28 false, .b false, .dec 47 false, .b false, .call C91, .b false, .fin, .nil 4 384256 3 1, orow 384256 (eI .i64) 0 ([] : List Int)] (oc C1 (o1 (bnf c2) (oc C3 (o1 (eqf c4) (o1 c50 (oF c51 (o1 (rfl : false = false) (o1 c50 (oF c81 (o1 (rfl : false = false) (oc C91 (o1 (eqf c92) (o1 (GE.nil (eI .i64) 0) on)))))))))))))
  · replace h := iq c2 h
    cases h
    exact rt func213 [.call C1, .b true, .fin, .nil 4 384256 3 1, orow 384256 (eI .i64) 0 ([] : List Int)] (oc C1 (oN c2 (o1 (GE.nil (eI .i64) 0) on)))

/-! ### impl_Around: function 208 -/
def impl_Around.f (k : Nat) (a0 : S38) (a1 : Int) : Option (List Int) := (impl_GridOk.f k a0).bind fun t1 => if t1 = true then ((impl_around.f a0 a1).bind fun t2 => some t2) else (some ([] : List Int))
theorem impl_Around.go : Callable prog 208 := ⟨_, func208, by kernel_rfl, rfl⟩
theorem impl_Around.ok (k : Nat) (a0 : S38) (a1 : Int) (r : (List Int)) (h : impl_Around.f k a0 a1 = some r) : VCalls prog 208 [.agg (e38 a0), .c (iI a1)] [.c (.own 3 1 r.length (fun j => (eI .i64) (r.getD j 0)))] := by
  unfold impl_Around.f at h
  refine VCalls.of (fn := f208) (N := 11) func208 rfl rfl (fun w0 => ?_)
  obtain ⟨t1, g1, h⟩ := bindN h
  let C1 := mkCon (impl_GridOk.ok k a0 t1 g1) impl_GridOk.go
  by_cases c2 : t1 = true
  · replace h := ip c2 h
    obtain ⟨t2, g3, h⟩ := bindN h
    let C3 := mkCon (impl_around.ok a0 a1 t2 g3) impl_around.go
    cases h
    exact rt func208 [.call C1, .b false, .call C3, .fin] (oc C1 (o1 (bnf c2) (oc C3 on)))
  · replace h := iq c2 h
    cases h
    exact rt func208 [.call C1, .b true, .fin, .nil 4 384256 3 1, orow 384256 (eI .i64) 0 ([] : List Int)] (oc C1 (oN c2 (o1 (GE.nil (eI .i64) 0) on)))
end Go.Proofs.YtoaknaceaghclaaGreat.V
