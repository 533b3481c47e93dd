/- What each Go function computes, and that the machine does so: printed by a program of this session (avgen.py). -/
import Derived.Test.YtnnppdjmhellcaaGreatV4
namespace Go.Proofs.YtnnppdjmhellcaaGreat.V
open Go Go.Av Go.Proofs
set_option linter.unusedVariables false
set_option maxRecDepth 100000
/-! ### spec_YardOk: function 7 -/
def spec_YardOk.h0T (v133 : Int) (a0 : S48) (v132 : List Int) : List (Nat × AV) := [(1, .ptr 64 0), (3, .t (.c (.h 4544))), (4, .t (.c (.p true (.sc (.int .i64 v133)))))]
def spec_YardOk.h0H (v133 : Int) (a0 : S48) (v132 : List Int) : List (Nat × Content) := [(64, .box 48 [.p false (.sc (.int .i64 a0.f0.f0.f0)), .p false (.sc (.int .i64 a0.f0.f0.f1)), .p false (.sc (.string a0.f0.f0.f2)), .p false (.sc (.int .i64 a0.f0.f1)), .p false (.sc (.int .i64 a0.f0.f2)), .p false (.sc (.int .i64 a0.f0.f3)), .p false (.sc (.int .i64 a0.f0.f4)), .p false (R 4 e71 z71 a0.f1), .p false (.sc (.int .i64 a0.f2.f0)), .p false (.sc (.int .i64 a0.f2.f1)), .p false (R 1 (eI .i64) 0 a0.f2.f2), .p false (.sc (.int .i64 a0.f3)), .p false (.sc (.bool a0.f4)), .p false (.sc (.int .i64 a0.f5.f0)), .p false (.sc (.int .i64 a0.f5.f1)), .p false (R 1 e65 z65 a0.f5.f2), .p false (R 3 e69 z69 a0.f6), .p false (R 1 (eI .i64) 0 a0.f7)]), (4544, .row 3 1 v132.length (fun j => (eI .i64) (v132.getD j 0)) true)]
def spec_YardOk.x0T (a0 : S48) (y134 : (List Int)) : List (Nat × AV) := [(1, .ptr 64 0), (3, .t (.c (.h 4544)))]
def spec_YardOk.x0H (a0 : S48) (y134 : (List Int)) : List (Nat × Content) := [(64, .box 48 [.p false (.sc (.int .i64 a0.f0.f0.f0)), .p false (.sc (.int .i64 a0.f0.f0.f1)), .p false (.sc (.string a0.f0.f0.f2)), .p false (.sc (.int .i64 a0.f0.f1)), .p false (.sc (.int .i64 a0.f0.f2)), .p false (.sc (.int .i64 a0.f0.f3)), .p false (.sc (.int .i64 a0.f0.f4)), .p false (R 4 e71 z71 a0.f1), .p false (.sc (.int .i64 a0.f2.f0)), .p false (.sc (.int .i64 a0.f2.f1)), .p false (R 1 (eI .i64) 0 a0.f2.f2), .p false (.sc (.int .i64 a0.f3)), .p false (.sc (.bool a0.f4)), .p false (.sc (.int .i64 a0.f5.f0)), .p false (.sc (.int .i64 a0.f5.f1)), .p false (R 1 e65 z65 a0.f5.f2), .p false (R 3 e69 z69 a0.f6), .p false (R 1 (eI .i64) 0 a0.f7)]), (4544, .row 3 1 y134.length (fun j => (eI .i64) (y134.getD j 0)) true)]
def spec_YardOk.l0 : Nat → S48 → List Int → Int → Option (List Int)
  | 0, _, _, _ => none
  | kq + 1, a0, v132, v133 => if v133 < (a0.f5.f2.length : Int) then (if 0 ≤ v133 then (if 0 < (((rdD z65 a0.f5.f2 v133).f0).length : Int) then (if (v132.length + 1) * 8 ≤ 140737488355328 then (spec_YardOk.l0 kq a0 (v132 ++ [(rdD 0 ((rdD z65 a0.f5.f2 v133).f0) 0)]) (w64 (v133 + 1))) else none) else none) else none) else (some v132)
def spec_YardOk.h1T (v156 : Int) (a0 : S48) (y134 : (List Int)) (t148 : List Int) (v155 : List Int) : List (Nat × AV) := [(1, .ptr 64 0), (3, .t (.c (.h 4544))), (5, .t (.c (.h 5952))), (6, .t (.c (.h 6016))), (7, .t (.c (.p true (.sc (.int .i64 v156)))))]
def spec_YardOk.h1H (v156 : Int) (a0 : S48) (y134 : (List Int)) (t148 : List Int) (v155 : List Int) : List (Nat × Content) := [(64, .box 48 [.p false (.sc (.int .i64 a0.f0.f0.f0)), .p false (.sc (.int .i64 a0.f0.f0.f1)), .p false (.sc (.string a0.f0.f0.f2)), .p false (.sc (.int .i64 a0.f0.f1)), .p false (.sc (.int .i64 a0.f0.f2)), .p false (.sc (.int .i64 a0.f0.f3)), .p false (.sc (.int .i64 a0.f0.f4)), .p false (R 4 e71 z71 a0.f1), .p false (.sc (.int .i64 a0.f2.f0)), .p false (.sc (.int .i64 a0.f2.f1)), .p false (R 1 (eI .i64) 0 a0.f2.f2), .p false (.sc (.int .i64 a0.f3)), .p false (.sc (.bool a0.f4)), .p false (.sc (.int .i64 a0.f5.f0)), .p false (.sc (.int .i64 a0.f5.f1)), .p false (R 1 e65 z65 a0.f5.f2), .p false (R 3 e69 z69 a0.f6), .p false (R 1 (eI .i64) 0 a0.f7)]), (4544, .row 3 1 y134.length (fun j => (eI .i64) (y134.getD j 0)) true), (5952, .row 3 1 t148.length (fun j => (eI .i64) (t148.getD j 0)) true), (6016, .row 3 1 v155.length (fun j => (eI .i64) (v155.getD j 0)) true)]
def spec_YardOk.x1T (a0 : S48) (y134 : (List Int)) (t148 : List Int) (y158 : (List Int)) : List (Nat × AV) := [(1, .ptr 64 0), (3, .t (.c (.h 4544))), (5, .t (.c (.h 5952))), (6, .t (.c (.h 6016)))]
def spec_YardOk.x1H (a0 : S48) (y134 : (List Int)) (t148 : List Int) (y158 : (List Int)) : List (Nat × Content) := [(64, .box 48 [.p false (.sc (.int .i64 a0.f0.f0.f0)), .p false (.sc (.int .i64 a0.f0.f0.f1)), .p false (.sc (.string a0.f0.f0.f2)), .p false (.sc (.int .i64 a0.f0.f1)), .p false (.sc (.int .i64 a0.f0.f2)), .p false (.sc (.int .i64 a0.f0.f3)), .p false (.sc (.int .i64 a0.f0.f4)), .p false (R 4 e71 z71 a0.f1), .p false (.sc (.int .i64 a0.f2.f0)), .p false (.sc (.int .i64 a0.f2.f1)), .p false (R 1 (eI .i64) 0 a0.f2.f2), .p false (.sc (.int .i64 a0.f3)), .p false (.sc (.bool a0.f4)), .p false (.sc (.int .i64 a0.f5.f0)), .p false (.sc (.int .i64 a0.f5.f1)), .p false (R 1 e65 z65 a0.f5.f2), .p false (R 3 e69 z69 a0.f6), .p false (R 1 (eI .i64) 0 a0.f7)]), (4544, .row 3 1 y134.length (fun j => (eI .i64) (y134.getD j 0)) true), (5952, .row 3 1 t148.length (fun j => (eI .i64) (t148.getD j 0)) true), (6016, .row 3 1 y158.length (fun j => (eI .i64) (y158.getD j 0)) true)]
def spec_YardOk.l1 : Nat → S48 → List Int → List Int → Int → Option (List Int)
  | 0, _, _, _, _ => none
  | kq + 1, a0, t148, v155, v156 => if v156 < (a0.f0.f0.f2.size : Int) then ((spec_l03Has.f kq t148 v156).bind fun t157 => if t157 = true then (spec_YardOk.l1 kq a0 t148 v155 (w64 (v156 + 1))) else (if (v155.length + 1) * 8 ≤ 140737488355328 then (spec_YardOk.l1 kq a0 t148 (v155 ++ [v156]) (w64 (v156 + 1))) else none)) else (some v155)
def spec_YardOk.h3T (v165 : Int) (v170 : Bool) (v169 : Int) (a0 : S48) (y134 : (List Int)) (t148 : List Int) (y158 : (List Int)) : List (Nat × AV) := [(1, .ptr 64 0), (3, .t (.c (.h 4544))), (5, .t (.c (.h 5952))), (6, .t (.c (.h 6016))), (8, .t (.c (.p true (.sc (.int .i64 v165))))), (9, .t (.c (.p true (.sc (.bool v170))))), (10, .t (.c (.p true (.sc (.int .i64 v169)))))]
def spec_YardOk.h3H (v165 : Int) (v170 : Bool) (v169 : Int) (a0 : S48) (y134 : (List Int)) (t148 : List Int) (y158 : (List Int)) : List (Nat × Content) := [(64, .box 48 [.p false (.sc (.int .i64 a0.f0.f0.f0)), .p false (.sc (.int .i64 a0.f0.f0.f1)), .p false (.sc (.string a0.f0.f0.f2)), .p false (.sc (.int .i64 a0.f0.f1)), .p false (.sc (.int .i64 a0.f0.f2)), .p false (.sc (.int .i64 a0.f0.f3)), .p false (.sc (.int .i64 a0.f0.f4)), .p false (R 4 e71 z71 a0.f1), .p false (.sc (.int .i64 a0.f2.f0)), .p false (.sc (.int .i64 a0.f2.f1)), .p false (R 1 (eI .i64) 0 a0.f2.f2), .p false (.sc (.int .i64 a0.f3)), .p false (.sc (.bool a0.f4)), .p false (.sc (.int .i64 a0.f5.f0)), .p false (.sc (.int .i64 a0.f5.f1)), .p false (R 1 e65 z65 a0.f5.f2), .p false (R 3 e69 z69 a0.f6), .p false (R 1 (eI .i64) 0 a0.f7)]), (4544, .row 3 1 y134.length (fun j => (eI .i64) (y134.getD j 0)) true), (5952, .row 3 1 t148.length (fun j => (eI .i64) (t148.getD j 0)) true), (6016, .row 3 1 y158.length (fun j => (eI .i64) (y158.getD j 0)) true)]
def spec_YardOk.x3T (v165 : Int) (y171 : Bool) (a0 : S48) (y134 : (List Int)) (t148 : List Int) (y158 : (List Int)) : List (Nat × AV) := [(1, .ptr 64 0), (3, .t (.c (.h 4544))), (5, .t (.c (.h 5952))), (6, .t (.c (.h 6016))), (8, .t (.c (.p true (.sc (.int .i64 v165))))), (9, .t (.c (.p true (.sc (.bool y171)))))]
def spec_YardOk.x3H (v165 : Int) (y171 : Bool) (a0 : S48) (y134 : (List Int)) (t148 : List Int) (y158 : (List Int)) : List (Nat × Content) := [(64, .box 48 [.p false (.sc (.int .i64 a0.f0.f0.f0)), .p false (.sc (.int .i64 a0.f0.f0.f1)), .p false (.sc (.string a0.f0.f0.f2)), .p false (.sc (.int .i64 a0.f0.f1)), .p false (.sc (.int .i64 a0.f0.f2)), .p false (.sc (.int .i64 a0.f0.f3)), .p false (.sc (.int .i64 a0.f0.f4)), .p false (R 4 e71 z71 a0.f1), .p false (.sc (.int .i64 a0.f2.f0)), .p false (.sc (.int .i64 a0.f2.f1)), .p false (R 1 (eI .i64) 0 a0.f2.f2), .p false (.sc (.int .i64 a0.f3)), .p false (.sc (.bool a0.f4)), .p false (.sc (.int .i64 a0.f5.f0)), .p false (.sc (.int .i64 a0.f5.f1)), .p false (R 1 e65 z65 a0.f5.f2), .p false (R 3 e69 z69 a0.f6), .p false (R 1 (eI .i64) 0 a0.f7)]), (4544, .row 3 1 y134.length (fun j => (eI .i64) (y134.getD j 0)) true), (5952, .row 3 1 t148.length (fun j => (eI .i64) (t148.getD j 0)) true), (6016, .row 3 1 y158.length (fun j => (eI .i64) (y158.getD j 0)) true)]
def spec_YardOk.l3 : Nat → S48 → Int → Int → Bool → Option Bool
  | 0, _, _, _, _ => none
  | kq + 1, a0, v165, v169, v170 => if v169 < (a0.f6.length : Int) then (if 0 ≤ v169 then (if 0 ≤ v165 then (if (rdD z69 a0.f6 v169).f0 = (rdD z71 a0.f1 v165).f0 then (spec_YardOk.l3 kq a0 v165 (w64 (v169 + 1)) true) else (spec_YardOk.l3 kq a0 v165 (w64 (v169 + 1)) v170)) else none) else none) else (some v170)
def spec_YardOk.h2T (v165 : Int) (a0 : S48) (y134 : (List Int)) (t148 : List Int) (y158 : (List Int)) : List (Nat × AV) := [(1, .ptr 64 0), (3, .t (.c (.h 4544))), (5, .t (.c (.h 5952))), (6, .t (.c (.h 6016))), (8, .t (.c (.p true (.sc (.int .i64 v165)))))]
def spec_YardOk.h2H (v165 : Int) (a0 : S48) (y134 : (List Int)) (t148 : List Int) (y158 : (List Int)) : List (Nat × Content) := [(64, .box 48 [.p false (.sc (.int .i64 a0.f0.f0.f0)), .p false (.sc (.int .i64 a0.f0.f0.f1)), .p false (.sc (.string a0.f0.f0.f2)), .p false (.sc (.int .i64 a0.f0.f1)), .p false (.sc (.int .i64 a0.f0.f2)), .p false (.sc (.int .i64 a0.f0.f3)), .p false (.sc (.int .i64 a0.f0.f4)), .p false (R 4 e71 z71 a0.f1), .p false (.sc (.int .i64 a0.f2.f0)), .p false (.sc (.int .i64 a0.f2.f1)), .p false (R 1 (eI .i64) 0 a0.f2.f2), .p false (.sc (.int .i64 a0.f3)), .p false (.sc (.bool a0.f4)), .p false (.sc (.int .i64 a0.f5.f0)), .p false (.sc (.int .i64 a0.f5.f1)), .p false (R 1 e65 z65 a0.f5.f2), .p false (R 3 e69 z69 a0.f6), .p false (R 1 (eI .i64) 0 a0.f7)]), (4544, .row 3 1 y134.length (fun j => (eI .i64) (y134.getD j 0)) true), (5952, .row 3 1 t148.length (fun j => (eI .i64) (t148.getD j 0)) true), (6016, .row 3 1 y158.length (fun j => (eI .i64) (y158.getD j 0)) true)]
def spec_YardOk.l2 : Nat → S48 → List Int → (List Int) → (List Int) → Int → Option Bool
  | 0, _, _, _, _, _ => none
  | kq + 1, a0, t148, y158, y134, v165 => if v165 < (a0.f1.length : Int) then ((spec_YardOk.l3 kq a0 v165 0 false).bind fun y171 => (if y171 = true then (spec_YardOk.l2 kq a0 t148 y158 y134 (w64 (v165 + 1))) else (if 0 ≤ v165 then ((spec_l03Has.f kq t148 ((rdD z71 a0.f1 v165).f1)).bind fun t172 => if t172 = true then (some false) else ((spec_l03Has.f kq t148 ((rdD z71 a0.f1 v165).f2)).bind fun t173 => if t173 = true then (some false) else (spec_YardOk.l2 kq a0 t148 y158 y134 (w64 (v165 + 1))))) else none))) else ((spec_Walled.f kq a0.f0.f0 y158).bind fun t178 => (spec_PlanFault.f kq t178 y134 a0.f7 a0.f5).bind fun t304 => some (decide (t304 = 0)))
def spec_YardOk.f (k : Nat) (a0 : S48) : Option Bool := (spec_SetupOk.f k a0.f0).bind fun t61 => if t61 = true then ((spec_RobotsOk.f k a0.f0.f0 a0.f1).bind fun t102 => if t102 = true then ((spec_WindowOk.f k a0.f2).bind fun t108 => if t108 = true then (if a0.f2.f0 = a0.f0.f2 then (if a0.f2.f1 = a0.f0.f3 then ((spec_l01In.f a0.f3 0 1000000000).bind fun t109 => if t109 = true then ((spec_JobsOk.f k a0).bind fun t124 => if t124 = true then ((spec_l10Cells.f k a0.f0.f0 a0.f7).bind fun t128 => if t128 = true then (if a0.f4 = true then ((spec_YardOk.l0 k a0 ([] : List Int) 0).bind fun y134 => ((spec_Footprint.f k a0).bind fun t148 => (spec_YardOk.l1 k a0 t148 ([] : List Int) 0).bind fun y158 => (spec_YardOk.l2 k a0 t148 y158 y134 0))) else (some true)) else (some false)) else (some false)) else (some false)) else (some false)) else (some false)) else (some false)) else (some false)) else (some false)
theorem spec_YardOk.go : Callable Tryz.prog 7 := ⟨_, Tryz.func7, by kernel_rfl, rfl⟩
theorem spec_YardOk.ok (k : Nat) (a0 : S48) (r : Bool) (h : spec_YardOk.f k a0 = some r) : VCalls Tryz.prog 7 [.agg (e48 a0)] [.c (.p (.sc (.bool r)))] := by
  unfold spec_YardOk.f at h
  refine VCalls.of (fn := Tryz.f7) (N := 173) Tryz.func7 rfl rfl (fun w0 => ?_)
  obtain ⟨t61, g130, h⟩ := bindN h
  let C130 := mkCon (spec_SetupOk.ok k a0.f0 t61 g130) spec_SetupOk.go
  by_cases c131 : t61 = true
  · replace h := (if_pos c131).symm.trans h
    obtain ⟨t102, g243, h⟩ := bindN h
    let C243 := mkCon (spec_RobotsOk.ok k a0.f0.f0 a0.f1 t102 g243) spec_RobotsOk.go
    by_cases c244 : t102 = true
    · replace h := (if_pos c244).symm.trans h
      obtain ⟨t108, g257, h⟩ := bindN h
      let C257 := mkCon (spec_WindowOk.ok k a0.f2 t108 g257) spec_WindowOk.go
      by_cases c258 : t108 = true
      · replace h := (if_pos c258).symm.trans h
        by_cases c259 : a0.f2.f0 = a0.f0.f2
        · replace h := (if_pos c259).symm.trans h
          by_cases c260 : a0.f2.f1 = a0.f0.f3
          · replace h := (if_pos c260).symm.trans h
            obtain ⟨t109, g261, h⟩ := bindN h
            let C261 := mkCon (spec_l01In.ok a0.f3 0 1000000000 t109 g261) spec_l01In.go
            by_cases c262 : t109 = true
            · replace h := (if_pos c262).symm.trans h
              obtain ⟨t124, g321, h⟩ := bindN h
              let C321 := mkCon (spec_JobsOk.ok k a0 t124 g321) spec_JobsOk.go
              by_cases c322 : t124 = true
              · replace h := (if_pos c322).symm.trans h
                obtain ⟨t128, g338, h⟩ := bindN h
                let C338 := mkCon (spec_l10Cells.ok k a0.f0.f0 a0.f7 t128 g338) spec_l10Cells.go
                by_cases c339 : t128 = true
                · replace h := (if_pos c339).symm.trans h
                  by_cases c340 : a0.f4 = true
                  · replace h := (if_pos c340).symm.trans h
                    have H0 : ∀ (kq : Nat) (v132 : List Int) (v133 : Int) (x : (List Int)), spec_YardOk.l0 kq a0 v132 v133 = some x → AG Tryz.prog 7 173 [.c (.p (.sc (.bool r)))] w0 (exitStk (codeOf Tryz.f7) 0) (mkFS (spec_YardOk.x0T a0 x) (spec_YardOk.x0H a0 x)) → AG Tryz.prog 7 173 [.c (.p (.sc (.bool r)))] w0 (headStk (codeOf Tryz.f7) 0) (mkFS (spec_YardOk.h0T v133 a0 v132) (spec_YardOk.h0H v133 a0 v132)) := by
                      intro kq
                      induction kq with
                      | zero => intro v132 v133 x h hx; cases h
                      | succ kq ih =>
                        intro v132 v133 x h hx
                        rw [spec_YardOk.l0] at h
                        by_cases c352 : v133 < (a0.f5.f2.length : Int)
                        · replace h := (if_pos c352).symm.trans h
                          obtain ⟨c353, h⟩ := ifN h
                          obtain ⟨c354, h⟩ := ifN h
                          obtain ⟨c355, h⟩ := ifN h
                          exact byHead MX Tryz.func7 1000 [.b true, rowe 90 (eI .i64) 0 ([(rdD 0 ((rdD z65 a0.f5.f2 v133).f0) 0)]), .aft 91, orow 4544 (eI .i64) 0 (v132 ++ [(rdD 0 ((rdD z65 a0.f5.f2 v133).f0) 0)]), .fin] (o1 (decide_eq_true c352) (o1 c353 (o1 c352 (o1 (by decide : (0 : Int) ≤ 0) (o1 c354 (o1 (GE.lit 1 (eI .i64) 0 [(rdD 0 ((rdD z65 a0.f5.f2 v133).f0) 0)] (by intro x; rfl)) (o1 c355 (o1 (GE.app (e := (eI .i64)) (d := 0) v132 ([(rdD 0 ((rdD z65 a0.f5.f2 v133).f0) 0)]) rfl (fun _ _ => CE.refl _) rfl) on)))))))) (ih (v132 ++ [(rdD 0 ((rdD z65 a0.f5.f2 v133).f0) 0)]) (w64 (v133 + 1)) _ h hx) (by kernel_rfl)
                        · replace h := (if_neg c352).symm.trans h
                          cases h
                          exact byStop MX Tryz.func7 1000 [.b false, .fin] (o1 (decide_eq_false c352) on) hx (by kernel_rfl)
                    obtain ⟨y134, g940, h⟩ := bindN h
                    refine byHead MX Tryz.func7 1000 [.call C130, .dec 15 false, .call C243, .dec 24 false, .call C257, .dec 30 false, .dec 39 false, .dec 48 false, .call C261, .dec 54 false, .call C321, .dec 59 false, .call C338, .b false, .b false, rowe 71 (eI .i64) 0 ([] : List Int), .fin] (oa (sc_ C130) (o1 (bnf c131) (oa (sc_ C243) (o1 (bnf c244) (oa (sc_ C257) (o1 (bnf c258) (o1 (bnf (decide_eq_true c259)) (o1 (bnf (decide_eq_true c260)) (oa (sc_ C261) (o1 (bnf c262) (oa (sc_ C321) (o1 (bnf c322) (oa (sc_ C338) (o1 (bnf c339) (o1 (bnf c340) (o1 (GE.lit 1 (eI .i64) 0 ([] : List Int) (by intro x; rfl)) on)))))))))))))))) (H0 k ([] : List Int) 0 _ g940 ?_) (by kernel_rfl)
                    obtain ⟨t148, g444, h⟩ := bindN h
                    let C444 := mkCon (spec_Footprint.ok k a0 t148 g444) spec_Footprint.go
                    have H1 : ∀ (kq : Nat) (v155 : List Int) (v156 : Int) (x : (List Int)), spec_YardOk.l1 kq a0 t148 v155 v156 = some x → AG Tryz.prog 7 173 [.c (.p (.sc (.bool r)))] w0 (exitStk (codeOf Tryz.f7) 1) (mkFS (spec_YardOk.x1T a0 y134 t148 x) (spec_YardOk.x1H a0 y134 t148 x)) → AG Tryz.prog 7 173 [.c (.p (.sc (.bool r)))] w0 (headStk (codeOf Tryz.f7) 1) (mkFS (spec_YardOk.h1T v156 a0 y134 t148 v155) (spec_YardOk.h1H v156 a0 y134 t148 v155)) := by
                      intro kq
                      induction kq with
                      | zero => intro v155 v156 x h hx; cases h
                      | succ kq ih =>
                        intro v155 v156 x h hx
                        rw [spec_YardOk.l1] at h
                        by_cases c456 : v156 < (a0.f0.f0.f2.size : Int)
                        · replace h := (if_pos c456).symm.trans h
                          obtain ⟨t157, g457, h⟩ := bindN h
                          let C457 := mkCon (spec_l03Has.ok kq t148 v156 t157 g457) spec_l03Has.go
                          by_cases c458 : t157 = true
                          · replace h := (if_pos c458).symm.trans h
                            exact byHead MX Tryz.func7 1000 [.b true, .call C457, .b false, .fin] (o1 (decide_eq_true c456) (oa (sc_ C457) (o1 (bnf c458) on))) (ih v155 (w64 (v156 + 1)) _ h hx) (by kernel_rfl)
                          · replace h := (if_neg c458).symm.trans h
                            obtain ⟨c459, h⟩ := ifN h
                            exact byHead MX Tryz.func7 1000 [.b true, .call C457, .b true, rowe 110 (eI .i64) 0 ([v156]), .aft 111, orow 6016 (eI .i64) 0 (v155 ++ [v156]), .fin] (o1 (decide_eq_true c456) (oa (sc_ C457) (o1 (bnt (eqf c458)) (o1 (GE.lit 1 (eI .i64) 0 [v156] (by intro x; rfl)) (o1 c459 (o1 (GE.app (e := (eI .i64)) (d := 0) v155 ([v156]) rfl (fun _ _ => CE.refl _) rfl) on)))))) (ih (v155 ++ [v156]) (w64 (v156 + 1)) _ h hx) (by kernel_rfl)
                        · replace h := (if_neg c456).symm.trans h
                          cases h
                          exact byStop MX Tryz.func7 1000 [.b false, .fin] (o1 (decide_eq_false c456) on) hx (by kernel_rfl)
                    obtain ⟨y158, g939, h⟩ := bindN h
                    refine byHead MX Tryz.func7 1000 [.call C444, rowe 94 (eI .i64) 0 ([] : List Int), .fin] (oa (sc_ C444) (o1 (GE.lit 1 (eI .i64) 0 ([] : List Int) (by intro x; rfl)) on)) (H1 k ([] : List Int) 0 _ g939 ?_) (by kernel_rfl)
                    have H2 : ∀ (kq : Nat) (v165 : Int), spec_YardOk.l2 kq a0 t148 y158 y134 v165 = some r → AG Tryz.prog 7 173 [.c (.p (.sc (.bool r)))] w0 (headStk (codeOf Tryz.f7) 2) (mkFS (spec_YardOk.h2T v165 a0 y134 t148 y158) (spec_YardOk.h2H v165 a0 y134 t148 y158)) := by
                      intro kq
                      induction kq with
                      | zero => intro v165 h; cases h
                      | succ kq ih =>
                        intro v165 h
                        rw [spec_YardOk.l2] at h
                        by_cases c472 : v165 < (a0.f1.length : Int)
                        · replace h := (if_pos c472).symm.trans h
                          have H3 : ∀ (kq : Nat) (v169 : Int) (v170 : Bool) (x : Bool), spec_YardOk.l3 kq a0 v165 v169 v170 = some x → AG Tryz.prog 7 173 [.c (.p (.sc (.bool r)))] w0 (exitStk (codeOf Tryz.f7) 3) (mkFS (spec_YardOk.x3T v165 x a0 y134 t148 y158) (spec_YardOk.x3H v165 x a0 y134 t148 y158)) → AG Tryz.prog 7 173 [.c (.p (.sc (.bool r)))] w0 (headStk (codeOf Tryz.f7) 3) (mkFS (spec_YardOk.h3T v165 v170 v169 a0 y134 t148 y158) (spec_YardOk.h3H v165 v170 v169 a0 y134 t148 y158)) := by
                            intro kq
                            induction kq with
                            | zero => intro v169 v170 x h hx; cases h
                            | succ kq ih =>
                              intro v169 v170 x h hx
                              rw [spec_YardOk.l3] at h
                              by_cases c483 : v169 < (a0.f6.length : Int)
                              · replace h := (if_pos c483).symm.trans h
                                obtain ⟨c484, h⟩ := ifN h
                                obtain ⟨c485, h⟩ := ifN h
                                by_cases c486 : (rdD z69 a0.f6 v169).f0 = (rdD z71 a0.f1 v165).f0
                                · replace h := (if_pos c486).symm.trans h
                                  exact byHead MX Tryz.func7 1000 [.b true, .b true, .fin] (o1 (decide_eq_true c483) (o1 c484 (o1 c483 (o1 c485 (o1 c472 (o1 (decide_eq_true c486) on)))))) (ih (w64 (v169 + 1)) true _ h hx) (by kernel_rfl)
                                · replace h := (if_neg c486).symm.trans h
                                  exact byHead MX Tryz.func7 1000 [.b true, .b false, .fin] (o1 (decide_eq_true c483) (o1 c484 (o1 c483 (o1 c485 (o1 c472 (o1 (decide_eq_false c486) on)))))) (ih (w64 (v169 + 1)) v170 _ h hx) (by kernel_rfl)
                              · replace h := (if_neg c483).symm.trans h
                                cases h
                                exact byStop MX Tryz.func7 1000 [.b false, .fin] (o1 (decide_eq_false c483) on) hx (by kernel_rfl)
                          obtain ⟨y171, g493, h⟩ := bindN h
                          refine byHead MX Tryz.func7 1000 [.b true, .fin] (o1 (decide_eq_true c472) on) (H3 kq 0 false _ g493 ?_) (by kernel_rfl)
                          by_cases c487 : y171 = true
                          · replace h := (if_pos c487).symm.trans h
                            exact byHead MX Tryz.func7 1000 [.dec 141 false, .b false, .fin] (o1 (bnf c487) (o1 (rfl : false = false) on)) (ih (w64 (v165 + 1)) h) (by kernel_rfl)
                          · replace h := (if_neg c487).symm.trans h
                            obtain ⟨c488, h⟩ := ifN h
                            obtain ⟨t172, g489, h⟩ := bindN h
                            let C489 := mkCon (spec_l03Has.ok kq t148 ((rdD z71 a0.f1 v165).f1) t172 g489) spec_l03Has.go
                            by_cases c490 : t172 = true
                            · replace h := (if_pos c490).symm.trans h
                              cases h
                              exact byRet MX Tryz.func7 1000 [.dec 141 true, .call C489, .dec 150 true, .b true, .fin] (o1 (bnt (eqf c487)) (o1 c488 (o1 c472 (oa (sc_ C489) (o1 c490 (o1 (rfl : true = true) on)))))) (by kernel_rfl)
                            · replace h := (if_neg c490).symm.trans h
                              obtain ⟨t173, g491, h⟩ := bindN h
                              let C491 := mkCon (spec_l03Has.ok kq t148 ((rdD z71 a0.f1 v165).f2) t173 g491) spec_l03Has.go
                              by_cases c492 : t173 = true
                              · replace h := (if_pos c492).symm.trans h
                                cases h
                                exact byRet MX Tryz.func7 1000 [.dec 141 true, .call C489, .dec 150 false, .call C491, .b true, .fin] (o1 (bnt (eqf c487)) (o1 c488 (o1 c472 (oa (sc_ C489) (o1 (eqf c490) (o1 c488 (o1 c472 (oa (sc_ C491) (o1 c492 on))))))))) (by kernel_rfl)
                              · replace h := (if_neg c492).symm.trans h
                                exact byHead MX Tryz.func7 1000 [.dec 141 true, .call C489, .dec 150 false, .call C491, .b false, .fin] (o1 (bnt (eqf c487)) (o1 c488 (o1 c472 (oa (sc_ C489) (o1 (eqf c490) (o1 c488 (o1 c472 (oa (sc_ C491) (o1 (eqf c492) on))))))))) (ih (w64 (v165 + 1)) h) (by kernel_rfl)
                        · replace h := (if_neg c472).symm.trans h
                          obtain ⟨t178, g509, h⟩ := bindN h
                          let C509 := mkCon (spec_Walled.ok kq a0.f0.f0 y158 t178 g509) spec_Walled.go
                          obtain ⟨t304, g938, h⟩ := bindN h
                          let C938 := mkCon (spec_PlanFault.ok kq t178 y134 a0.f7 a0.f5 t304 g938) spec_PlanFault.go
                          cases h
                          exact byRet MX Tryz.func7 1000 [.b false, .fin, .call C509, .call C938, .fin] (o1 (decide_eq_false c472) (oa (sc_ C509) (oa (sc_ C938) on))) (by kernel_rfl)
                    exact byHead MX Tryz.func7 1000 [.fin] on (H2 k 0 h) (by kernel_rfl)
                  · replace h := (if_neg c340).symm.trans h
                    cases h
                    exact byRet MX Tryz.func7 1000 [.call C130, .dec 15 false, .call C243, .dec 24 false, .call C257, .dec 30 false, .dec 39 false, .dec 48 false, .call C261, .dec 54 false, .call C321, .dec 59 false, .call C338, .b false, .b true, .fin] (oa (sc_ C130) (o1 (bnf c131) (oa (sc_ C243) (o1 (bnf c244) (oa (sc_ C257) (o1 (bnf c258) (o1 (bnf (decide_eq_true c259)) (o1 (bnf (decide_eq_true c260)) (oa (sc_ C261) (o1 (bnf c262) (oa (sc_ C321) (o1 (bnf c322) (oa (sc_ C338) (o1 (bnf c339) (o1 (bnt (eqf c340)) on))))))))))))))) (by kernel_rfl)
                · replace h := (if_neg c339).symm.trans h
                  cases h
                  exact byRet MX Tryz.func7 1000 [.call C130, .dec 15 false, .call C243, .dec 24 false, .call C257, .dec 30 false, .dec 39 false, .dec 48 false, .call C261, .dec 54 false, .call C321, .dec 59 false, .call C338, .b true, .fin] (oa (sc_ C130) (o1 (bnf c131) (oa (sc_ C243) (o1 (bnf c244) (oa (sc_ C257) (o1 (bnf c258) (o1 (bnf (decide_eq_true c259)) (o1 (bnf (decide_eq_true c260)) (oa (sc_ C261) (o1 (bnf c262) (oa (sc_ C321) (o1 (bnf c322) (oa (sc_ C338) (o1 (bnt (eqf c339)) on)))))))))))))) (by kernel_rfl)
              · replace h := (if_neg c322).symm.trans h
                cases h
                exact byRet MX Tryz.func7 1000 [.call C130, .dec 15 false, .call C243, .dec 24 false, .call C257, .dec 30 false, .dec 39 false, .dec 48 false, .call C261, .dec 54 false, .call C321, .dec 59 true, .b true, .fin] (oa (sc_ C130) (o1 (bnf c131) (oa (sc_ C243) (o1 (bnf c244) (oa (sc_ C257) (o1 (bnf c258) (o1 (bnf (decide_eq_true c259)) (o1 (bnf (decide_eq_true c260)) (oa (sc_ C261) (o1 (bnf c262) (oa (sc_ C321) (o1 (bnt (eqf c322)) (o1 (rfl : true = true) on))))))))))))) (by kernel_rfl)
            · replace h := (if_neg c262).symm.trans h
              cases h
              exact byRet MX Tryz.func7 1000 [.call C130, .dec 15 false, .call C243, .dec 24 false, .call C257, .dec 30 false, .dec 39 false, .dec 48 false, .call C261, .dec 54 true, .b true, .fin] (oa (sc_ C130) (o1 (bnf c131) (oa (sc_ C243) (o1 (bnf c244) (oa (sc_ C257) (o1 (bnf c258) (o1 (bnf (decide_eq_true c259)) (o1 (bnf (decide_eq_true c260)) (oa (sc_ C261) (o1 (bnt (eqf c262)) (o1 (rfl : true = true) on))))))))))) (by kernel_rfl)
          · replace h := (if_neg c260).symm.trans h
            cases h
            exact byRet MX Tryz.func7 1000 [.call C130, .dec 15 false, .call C243, .dec 24 false, .call C257, .dec 30 false, .dec 39 false, .dec 48 true, .b true, .fin] (oa (sc_ C130) (o1 (bnf c131) (oa (sc_ C243) (o1 (bnf c244) (oa (sc_ C257) (o1 (bnf c258) (o1 (bnf (decide_eq_true c259)) (o1 (bnt (decide_eq_false c260)) (o1 (rfl : true = true) on))))))))) (by kernel_rfl)
        · replace h := (if_neg c259).symm.trans h
          cases h
          exact byRet MX Tryz.func7 1000 [.call C130, .dec 15 false, .call C243, .dec 24 false, .call C257, .dec 30 false, .dec 39 true, .b true, .fin] (oa (sc_ C130) (o1 (bnf c131) (oa (sc_ C243) (o1 (bnf c244) (oa (sc_ C257) (o1 (bnf c258) (o1 (bnt (decide_eq_false c259)) (o1 (rfl : true = true) on)))))))) (by kernel_rfl)
      · replace h := (if_neg c258).symm.trans h
        cases h
        exact byRet MX Tryz.func7 1000 [.call C130, .dec 15 false, .call C243, .dec 24 false, .call C257, .dec 30 true, .b true, .fin] (oa (sc_ C130) (o1 (bnf c131) (oa (sc_ C243) (o1 (bnf c244) (oa (sc_ C257) (o1 (bnt (eqf c258)) (o1 (rfl : true = true) on))))))) (by kernel_rfl)
    · replace h := (if_neg c244).symm.trans h
      cases h
      exact byRet MX Tryz.func7 1000 [.call C130, .dec 15 false, .call C243, .dec 24 true, .b true, .fin] (oa (sc_ C130) (o1 (bnf c131) (oa (sc_ C243) (o1 (bnt (eqf c244)) (o1 (rfl : true = true) on))))) (by kernel_rfl)
  · replace h := (if_neg c131).symm.trans h
    cases h
    exact byRet MX Tryz.func7 1000 [.call C130, .dec 15 true, .b true, .fin] (oa (sc_ C130) (o1 (bnt (eqf c131)) (o1 (rfl : true = true) on))) (by kernel_rfl)

/-! ### impl_WindowNew: function 82 -/
def impl_WindowNew.f (a0 : Int) (a1 : Int) : Option (S42 × Bool) := if a0 < 1 then (some ((⟨0, 0, ([] : List Int)⟩ : S42), false)) else (if 8 < a0 then (some ((⟨0, 0, ([] : List Int)⟩ : S42), false)) else (if a1 < 1 then (some ((⟨0, 0, ([] : List Int)⟩ : S42), false)) else (if 100 < a1 then (some ((⟨0, 0, ([] : List Int)⟩ : S42), false)) else (if 0 ≤ (w64 (a0 * 6)) then (if (w64 (a0 * 6)).toNat * 8 ≤ 140737488355328 then (some ((⟨a0, a1, (List.replicate (w64 (a0 * 6)).toNat 0)⟩ : S42), true)) else none) else none))))
theorem impl_WindowNew.go : Callable Tryz.prog 82 := ⟨_, Tryz.func82, by kernel_rfl, rfl⟩
theorem impl_WindowNew.ok (a0 : Int) (a1 : Int) (r : S42 × Bool) (h : impl_WindowNew.f a0 a1 = some r) : VCalls Tryz.prog 82 [.c (.sc (.int .i64 a0)), .c (.sc (.int .i64 a1))] [.agg (r42 r.1), .c (.p (.sc (.bool r.2)))] := by
  unfold impl_WindowNew.f at h
  refine VCalls.of (fn := Tryz.f82) (N := 27) Tryz.func82 rfl rfl (fun w0 => ?_)
  by_cases c943 : a0 < 1
  · replace h := (if_pos c943).symm.trans h
    cases h
    exact byRet MX Tryz.func82 1000 [.dec 8 true, .b true, .fin, .nilB 256 2 448258 3 1, orow 448258 (eI .i64) 0 ([] : List Int)] (o1 (decide_eq_true c943) (o1 (rfl : true = true) (o1 (GE.nil (eI .i64) 0) on))) (by kernel_rfl)
  · replace h := (if_neg c943).symm.trans h
    by_cases c944 : 8 < a0
    · replace h := (if_pos c944).symm.trans h
      cases h
      exact byRet MX Tryz.func82 1000 [.dec 8 false, .dec 12 true, .b true, .fin, .nilB 256 2 448258 3 1, orow 448258 (eI .i64) 0 ([] : List Int)] (o1 (decide_eq_false c943) (o1 (decide_eq_true c944) (o1 (rfl : true = true) (o1 (GE.nil (eI .i64) 0) on)))) (by kernel_rfl)
    · replace h := (if_neg c944).symm.trans h
      by_cases c945 : a1 < 1
      · replace h := (if_pos c945).symm.trans h
        cases h
        exact byRet MX Tryz.func82 1000 [.dec 8 false, .dec 12 false, .dec 16 true, .b true, .fin, .nilB 256 2 448258 3 1, orow 448258 (eI .i64) 0 ([] : List Int)] (o1 (decide_eq_false c943) (o1 (decide_eq_false c944) (o1 (decide_eq_true c945) (o1 (rfl : true = true) (o1 (GE.nil (eI .i64) 0) on))))) (by kernel_rfl)
      · replace h := (if_neg c945).symm.trans h
        by_cases c946 : 100 < a1
        · replace h := (if_pos c946).symm.trans h
          cases h
          exact byRet MX Tryz.func82 1000 [.dec 8 false, .dec 12 false, .dec 16 false, .b true, .fin, .nilB 256 2 448258 3 1, orow 448258 (eI .i64) 0 ([] : List Int)] (o1 (decide_eq_false c943) (o1 (decide_eq_false c944) (o1 (decide_eq_false c945) (o1 (decide_eq_true c946) (o1 (GE.nil (eI .i64) 0) on))))) (by kernel_rfl)
        · replace h := (if_neg c946).symm.trans h
          obtain ⟨c947, h⟩ := ifN h
          obtain ⟨c948, h⟩ := ifN h
          cases h
          exact byRet MX Tryz.func82 1000 [.dec 8 false, .dec 12 false, .dec 16 false, .b false, rowe 25 (eI .i64) 0 (List.replicate (w64 (a0 * 6)).toNat 0), .fin] (o1 (decide_eq_false c943) (o1 (decide_eq_false c944) (o1 (decide_eq_false c945) (o1 (decide_eq_false c946) (o1 (rfl : (w64 (a0 * 6)) = (w64 (a0 * 6))) (o1 c947 (o1 (mxl (b := 8) (by decide) c948) (o1 c948 (o1 (GE.rep (e := (eI .i64)) (d := 0) (w64 (a0 * 6)).toNat (CE.refl _)) on))))))))) (by kernel_rfl)

/-! ### impl_GridOk: function 83 -/
def impl_GridOk.h0T (v308 : Int) (a0 : S38) : List (Nat × AV) := [(1, .ptr 64 0), (3, .t (.c (.p true (.sc (.int .i64 v308)))))]
def impl_GridOk.h0H (v308 : Int) (a0 : S38) : List (Nat × Content) := [(64, .box 38 [.p false (.sc (.int .i64 a0.f0)), .p false (.sc (.int .i64 a0.f1)), .p false (.sc (.string a0.f2))])]
def impl_GridOk.l0 : Nat → S38 → Int → Option Bool
  | 0, _, _ => none
  | kq + 1, a0, v308 => if v308 < (a0.f2.size : Int) then (if 0 ≤ v308 then (if (bt a0.f2 v308) = 46 then (impl_GridOk.l0 kq a0 (w64 (v308 + 1))) else (if (bt a0.f2 v308) = 35 then (impl_GridOk.l0 kq a0 (w64 (v308 + 1))) else (if (bt a0.f2 v308) < 97 then (if (bt a0.f2 v308) < 65 then (some false) else (if 70 < (bt a0.f2 v308) then (some false) else (impl_GridOk.l0 kq a0 (w64 (v308 + 1))))) else (if 102 < (bt a0.f2 v308) then (if (bt a0.f2 v308) < 65 then (some false) else (if 70 < (bt a0.f2 v308) then (some false) else (impl_GridOk.l0 kq a0 (w64 (v308 + 1))))) else (impl_GridOk.l0 kq a0 (w64 (v308 + 1))))))) else none) else (some true)
def impl_GridOk.f (k : Nat) (a0 : S38) : Option Bool := if a0.f0 < 1 then (some false) else (if 8 < a0.f0 then (some false) else (if a0.f1 < 1 then (some false) else (if 8 < a0.f1 then (some false) else (if (a0.f2.size : Int) = (w64 (a0.f0 * a0.f1)) then (impl_GridOk.l0 k a0 0) else (some false)))))
theorem impl_GridOk.go : Callable Tryz.prog 83 := ⟨_, Tryz.func83, by kernel_rfl, rfl⟩
theorem impl_GridOk.ok (k : Nat) (a0 : S38) (r : Bool) (h : impl_GridOk.f k a0 = some r) : VCalls Tryz.prog 83 [.agg (e38 a0)] [.c (.p (.sc (.bool r)))] := by
  unfold impl_GridOk.f at h
  refine VCalls.of (fn := Tryz.f83) (N := 67) Tryz.func83 rfl rfl (fun w0 => ?_)
  by_cases c950 : a0.f0 < 1
  · replace h := (if_pos c950).symm.trans h
    cases h
    exact byRet MX Tryz.func83 1000 [.dec 8 true, .b true, .fin] (o1 (decide_eq_true c950) (o1 (rfl : true = true) on)) (by kernel_rfl)
  · replace h := (if_neg c950).symm.trans h
    by_cases c951 : 8 < a0.f0
    · replace h := (if_pos c951).symm.trans h
      cases h
      exact byRet MX Tryz.func83 1000 [.dec 8 false, .dec 13 true, .b true, .fin] (o1 (decide_eq_false c950) (o1 (decide_eq_true c951) (o1 (rfl : true = true) on))) (by kernel_rfl)
    · replace h := (if_neg c951).symm.trans h
      by_cases c952 : a0.f1 < 1
      · replace h := (if_pos c952).symm.trans h
        cases h
        exact byRet MX Tryz.func83 1000 [.dec 8 false, .dec 13 false, .dec 18 true, .b true, .fin] (o1 (decide_eq_false c950) (o1 (decide_eq_false c951) (o1 (decide_eq_true c952) (o1 (rfl : true = true) on)))) (by kernel_rfl)
      · replace h := (if_neg c952).symm.trans h
        by_cases c953 : 8 < a0.f1
        · replace h := (if_pos c953).symm.trans h
          cases h
          exact byRet MX Tryz.func83 1000 [.dec 8 false, .dec 13 false, .dec 18 false, .dec 23 true, .b true, .fin] (o1 (decide_eq_false c950) (o1 (decide_eq_false c951) (o1 (decide_eq_false c952) (o1 (decide_eq_true c953) (o1 (rfl : true = true) on))))) (by kernel_rfl)
        · replace h := (if_neg c953).symm.trans h
          by_cases c954 : (a0.f2.size : Int) = (w64 (a0.f0 * a0.f1))
          · replace h := (if_pos c954).symm.trans h
            have H0 : ∀ (kq : Nat) (v308 : Int), impl_GridOk.l0 kq a0 v308 = some r → AG Tryz.prog 83 67 [.c (.p (.sc (.bool r)))] w0 (headStk (codeOf Tryz.f83) 0) (mkFS (impl_GridOk.h0T v308 a0) (impl_GridOk.h0H v308 a0)) := by
              intro kq
              induction kq with
              | zero => intro v308 h; cases h
              | succ kq ih =>
                intro v308 h
                rw [impl_GridOk.l0] at h
                by_cases c957 : v308 < (a0.f2.size : Int)
                · replace h := (if_pos c957).symm.trans h
                  obtain ⟨c958, h⟩ := ifN h
                  by_cases c959 : (bt a0.f2 v308) = 46
                  · replace h := (if_pos c959).symm.trans h
                    exact byHead MX Tryz.func83 1000 [.b true, .dec 47 false, .b false, .fin] (o1 (decide_eq_true c957) (o1 c958 (o1 c957 (o1 (bnf (decide_eq_true c959)) (o1 (rfl : false = false) on))))) (ih (w64 (v308 + 1)) h) (by kernel_rfl)
                  · replace h := (if_neg c959).symm.trans h
                    by_cases c960 : (bt a0.f2 v308) = 35
                    · replace h := (if_pos c960).symm.trans h
                      exact byHead MX Tryz.func83 1000 [.b true, .dec 47 true, .dec 51 false, .b false, .fin] (o1 (decide_eq_true c957) (o1 c958 (o1 c957 (o1 (bnt (decide_eq_false c959)) (o1 (bnf (decide_eq_true c960)) (o1 (rfl : false = false) on)))))) (ih (w64 (v308 + 1)) h) (by kernel_rfl)
                    · replace h := (if_neg c960).symm.trans h
                      by_cases c961 : (bt a0.f2 v308) < 97
                      · replace h := (if_pos c961).symm.trans h
                        by_cases c962 : (bt a0.f2 v308) < 65
                        · replace h := (if_pos c962).symm.trans h
                          cases h
                          exact byRet MX Tryz.func83 1000 [.b true, .dec 47 true, .dec 51 true, .dec 54 true, .dec 62 true, .b true, .fin] (o1 (decide_eq_true c957) (o1 c958 (o1 c957 (o1 (bnt (decide_eq_false c959)) (o1 (bnt (decide_eq_false c960)) (o1 (decide_eq_true c961) (o1 (decide_eq_true c962) (o1 (rfl : true = true) on)))))))) (by kernel_rfl)
                        · replace h := (if_neg c962).symm.trans h
                          by_cases c963 : 70 < (bt a0.f2 v308)
                          · replace h := (if_pos c963).symm.trans h
                            cases h
                            exact byRet MX Tryz.func83 1000 [.b true, .dec 47 true, .dec 51 true, .dec 54 true, .dec 62 false, .b true, .fin] (o1 (decide_eq_true c957) (o1 c958 (o1 c957 (o1 (bnt (decide_eq_false c959)) (o1 (bnt (decide_eq_false c960)) (o1 (decide_eq_true c961) (o1 (decide_eq_false c962) (o1 (decide_eq_true c963) on)))))))) (by kernel_rfl)
                          · replace h := (if_neg c963).symm.trans h
                            exact byHead MX Tryz.func83 1000 [.b true, .dec 47 true, .dec 51 true, .dec 54 true, .dec 62 false, .b false, .fin] (o1 (decide_eq_true c957) (o1 c958 (o1 c957 (o1 (bnt (decide_eq_false c959)) (o1 (bnt (decide_eq_false c960)) (o1 (decide_eq_true c961) (o1 (decide_eq_false c962) (o1 (decide_eq_false c963) on)))))))) (ih (w64 (v308 + 1)) h) (by kernel_rfl)
                      · replace h := (if_neg c961).symm.trans h
                        by_cases c964 : 102 < (bt a0.f2 v308)
                        · replace h := (if_pos c964).symm.trans h
                          by_cases c965 : (bt a0.f2 v308) < 65
                          · replace h := (if_pos c965).symm.trans h
                            cases h
                            exact byRet MX Tryz.func83 1000 [.b true, .dec 47 true, .dec 51 true, .dec 54 false, .dec 59 true, .dec 62 true, .b true, .fin] (o1 (decide_eq_true c957) (o1 c958 (o1 c957 (o1 (bnt (decide_eq_false c959)) (o1 (bnt (decide_eq_false c960)) (o1 (decide_eq_false c961) (o1 (decide_eq_true c964) (o1 (decide_eq_true c965) (o1 (rfl : true = true) on))))))))) (by kernel_rfl)
                          · replace h := (if_neg c965).symm.trans h
                            by_cases c966 : 70 < (bt a0.f2 v308)
                            · replace h := (if_pos c966).symm.trans h
                              cases h
                              exact byRet MX Tryz.func83 1000 [.b true, .dec 47 true, .dec 51 true, .dec 54 false, .dec 59 true, .dec 62 false, .b true, .fin] (o1 (decide_eq_true c957) (o1 c958 (o1 c957 (o1 (bnt (decide_eq_false c959)) (o1 (bnt (decide_eq_false c960)) (o1 (decide_eq_false c961) (o1 (decide_eq_true c964) (o1 (decide_eq_false c965) (o1 (decide_eq_true c966) on))))))))) (by kernel_rfl)
                            · replace h := (if_neg c966).symm.trans h
                              exact byHead MX Tryz.func83 1000 [.b true, .dec 47 true, .dec 51 true, .dec 54 false, .dec 59 true, .dec 62 false, .b false, .fin] (o1 (decide_eq_true c957) (o1 c958 (o1 c957 (o1 (bnt (decide_eq_false c959)) (o1 (bnt (decide_eq_false c960)) (o1 (decide_eq_false c961) (o1 (decide_eq_true c964) (o1 (decide_eq_false c965) (o1 (decide_eq_false c966) on))))))))) (ih (w64 (v308 + 1)) h) (by kernel_rfl)
                        · replace h := (if_neg c964).symm.trans h
                          exact byHead MX Tryz.func83 1000 [.b true, .dec 47 true, .dec 51 true, .dec 54 false, .dec 59 false, .b false, .fin] (o1 (decide_eq_true c957) (o1 c958 (o1 c957 (o1 (bnt (decide_eq_false c959)) (o1 (bnt (decide_eq_false c960)) (o1 (decide_eq_false c961) (o1 (decide_eq_false c964) (o1 (rfl : false = false) on)))))))) (ih (w64 (v308 + 1)) h) (by kernel_rfl)
                · replace h := (if_neg c957).symm.trans h
                  cases h
                  exact byRet MX Tryz.func83 1000 [.b false, .fin, .fin] (o1 (decide_eq_false c957) on) (by kernel_rfl)
            exact byHead MX Tryz.func83 1000 [.dec 8 false, .dec 13 false, .dec 18 false, .dec 23 false, .b false, .fin] (o1 (decide_eq_false c950) (o1 (decide_eq_false c951) (o1 (decide_eq_false c952) (o1 (decide_eq_false c953) (o1 (bnf (decide_eq_true c954)) on))))) (H0 k 0 h) (by kernel_rfl)
          · replace h := (if_neg c954).symm.trans h
            cases h
            exact byRet MX Tryz.func83 1000 [.dec 8 false, .dec 13 false, .dec 18 false, .dec 23 false, .b true, .fin] (o1 (decide_eq_false c950) (o1 (decide_eq_false c951) (o1 (decide_eq_false c952) (o1 (decide_eq_false c953) (o1 (bnt (decide_eq_false c954)) on))))) (by kernel_rfl)

/-! ### impl_SetupOk: function 37 -/
def impl_SetupOk.f (k : Nat) (a0 : S40) : Option Bool := (impl_WindowNew.f a0.f2 a0.f3).bind fun t307 => (impl_GridOk.f k a0.f0).bind fun t309 => if t309 = true then (if 1 ≤ a0.f1 then (if a0.f1 ≤ 20 then (if t307.2 = true then (if 0 ≤ a0.f4 then (some (decide (a0.f4 ≤ 20))) else (some false)) else (some false)) else (some false)) else (some false)) else (some false)
theorem impl_SetupOk.go : Callable Tryz.prog 37 := ⟨_, Tryz.func37, by kernel_rfl, rfl⟩
theorem impl_SetupOk.ok (k : Nat) (a0 : S40) (r : Bool) (h : impl_SetupOk.f k a0 = some r) : VCalls Tryz.prog 37 [.agg (e40 a0)] [.c (.p (.sc (.bool r)))] := by
  unfold impl_SetupOk.f at h
  refine VCalls.of (fn := Tryz.f37) (N := 39) Tryz.func37 rfl rfl (fun w0 => ?_)
  obtain ⟨t307, g949, h⟩ := bindN h
  let C949 := mkCon (impl_WindowNew.ok a0.f2 a0.f3 t307 g949) impl_WindowNew.go
  obtain ⟨t309, g967, h⟩ := bindN h
  let C967 := mkCon (impl_GridOk.ok k a0.f0 t309 g967) impl_GridOk.go
  by_cases c968 : t309 = true
  · replace h := (if_pos c968).symm.trans h
    by_cases c969 : 1 ≤ a0.f1
    · replace h := (if_pos c969).symm.trans h
      by_cases c970 : a0.f1 ≤ 20
      · replace h := (if_pos c970).symm.trans h
        by_cases c971 : t307.2 = true
        · replace h := (if_pos c971).symm.trans h
          by_cases c972 : 0 ≤ a0.f4
          · replace h := (if_pos c972).symm.trans h
            cases h
            exact byRet MX Tryz.func37 1000 [.call C949, .call C967, .dec 16 true, .dec 21 true, .dec 26 true, .dec 29 true, .dec 34 true, .fin] (oa (sc_ C949) (oa (sc_ C967) (o1 c968 (o1 (decide_eq_true c969) (o1 (decide_eq_true c970) (o1 c971 (o1 (decide_eq_true c972) on))))))) (by kernel_rfl)
          · replace h := (if_neg c972).symm.trans h
            cases h
            exact byRet MX Tryz.func37 1000 [.call C949, .call C967, .dec 16 true, .dec 21 true, .dec 26 true, .dec 29 true, .dec 34 false, .fin] (oa (sc_ C949) (oa (sc_ C967) (o1 c968 (o1 (decide_eq_true c969) (o1 (decide_eq_true c970) (o1 c971 (o1 (decide_eq_false c972) on))))))) (by kernel_rfl)
        · replace h := (if_neg c971).symm.trans h
          cases h
          exact byRet MX Tryz.func37 1000 [.call C949, .call C967, .dec 16 true, .dec 21 true, .dec 26 true, .dec 29 false, .fin] (oa (sc_ C949) (oa (sc_ C967) (o1 c968 (o1 (decide_eq_true c969) (o1 (decide_eq_true c970) (o1 (eqf c971) on)))))) (by kernel_rfl)
      · replace h := (if_neg c970).symm.trans h
        cases h
        exact byRet MX Tryz.func37 1000 [.call C949, .call C967, .dec 16 true, .dec 21 true, .dec 26 false, .fin] (oa (sc_ C949) (oa (sc_ C967) (o1 c968 (o1 (decide_eq_true c969) (o1 (decide_eq_false c970) on))))) (by kernel_rfl)
    · replace h := (if_neg c969).symm.trans h
      cases h
      exact byRet MX Tryz.func37 1000 [.call C949, .call C967, .dec 16 true, .dec 21 false, .fin] (oa (sc_ C949) (oa (sc_ C967) (o1 c968 (o1 (decide_eq_false c969) on)))) (by kernel_rfl)
  · replace h := (if_neg c968).symm.trans h
    cases h
    exact byRet MX Tryz.func37 1000 [.call C949, .call C967, .dec 16 false, .fin] (oa (sc_ C949) (oa (sc_ C967) (o1 (eqf c968) on))) (by kernel_rfl)

/-! ### impl_isFree: function 84 -/
def impl_isFree.f (a0 : S38) (a1 : Int) : Option Bool := if 0 ≤ a1 then (if a1 < (a0.f2.size : Int) then (some (!decide ((bt a0.f2 a1) = 35))) else (some false)) else (some false)
theorem impl_isFree.go : Callable Tryz.prog 84 := ⟨_, Tryz.func84, by kernel_rfl, rfl⟩
theorem impl_isFree.ok (a0 : S38) (a1 : Int) (r : Bool) (h : impl_isFree.f a0 a1 = some r) : VCalls Tryz.prog 84 [.agg (e38 a0), .c (.sc (.int .i64 a1))] [.c (.p (.sc (.bool r)))] := by
  unfold impl_isFree.f at h
  refine VCalls.of (fn := Tryz.f84) (N := 21) Tryz.func84 rfl rfl (fun w0 => ?_)
  by_cases c985 : 0 ≤ a1
  · replace h := (if_pos c985).symm.trans h
    by_cases c986 : a1 < (a0.f2.size : Int)
    · replace h := (if_pos c986).symm.trans h
      cases h
      exact byRet MX Tryz.func84 1000 [.dec 7 true, .dec 14 true, .fin] (o1 (decide_eq_true c985) (o1 (decide_eq_true c986) (o1 c985 (o1 c986 on)))) (by kernel_rfl)
    · replace h := (if_neg c986).symm.trans h
      cases h
      exact byRet MX Tryz.func84 1000 [.dec 7 true, .dec 14 false, .fin] (o1 (decide_eq_true c985) (o1 (decide_eq_false c986) on)) (by kernel_rfl)
  · replace h := (if_neg c985).symm.trans h
    cases h
    exact byRet MX Tryz.func84 1000 [.dec 7 false, .fin] (o1 (decide_eq_false c985) on) (by kernel_rfl)
end Go.Proofs.YtnnppdjmhellcaaGreat.V
