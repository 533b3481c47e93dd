/- What each Go function computes, and that the machine does so: printed by a program of this session (avgen.py). -/
import Derived.Test.YtoaknaceaghclaaGreatV4
namespace Go.Proofs.YtoaknaceaghclaaGreat.V
open Go Go.Av Go.Proofs
set_option linter.unusedVariables false
set_option maxRecDepth 100000
/-! ### spec_YardOk: function 32 -/
def spec_YardOk.h0T (v133 : Int) (a0 : S48) (v132 : List Int) : List (Nat × AV) := [(1, .ptr 64 0), (3, .t (.c (.h 4544))), (4, .t (.c (.p true (.sc (.int .i64 v133)))))]
def spec_YardOk.h0H (v133 : Int) (a0 : S48) (v132 : List Int) : List (Nat × Content) := [(64, .box 48 [.p false (.sc (.int .i64 a0.f0.f0.f0)), .p false (.sc (.int .i64 a0.f0.f0.f1)), .p false (.sc (.string a0.f0.f0.f2)), .p false (.sc (.int .i64 a0.f0.f1)), .p false (.sc (.int .i64 a0.f0.f2)), .p false (.sc (.int .i64 a0.f0.f3)), .p false (.sc (.int .i64 a0.f0.f4)), .p false (R 4 e69 z69 a0.f1), .p false (.sc (.int .i64 a0.f2.f0)), .p false (.sc (.int .i64 a0.f2.f1)), .p false (R 1 (eI .i64) 0 a0.f2.f2), .p false (.sc (.int .i64 a0.f3)), .p false (.sc (.bool a0.f4)), .p false (.sc (.int .i64 a0.f5.f0)), .p false (.sc (.int .i64 a0.f5.f1)), .p false (R 1 e72 z72 a0.f5.f2), .p false (R 3 e74 z74 a0.f6), .p false (R 1 (eI .i64) 0 a0.f7)]), (4544, .row 3 1 v132.length (fun j => (eI .i64) (v132.getD j 0)) true)]
def spec_YardOk.x0T (a0 : S48) (y134 : (List Int)) : List (Nat × AV) := [(1, .ptr 64 0), (3, .t (.c (.h 4544)))]
def spec_YardOk.x0H (a0 : S48) (y134 : (List Int)) : List (Nat × Content) := [(64, .box 48 [.p false (.sc (.int .i64 a0.f0.f0.f0)), .p false (.sc (.int .i64 a0.f0.f0.f1)), .p false (.sc (.string a0.f0.f0.f2)), .p false (.sc (.int .i64 a0.f0.f1)), .p false (.sc (.int .i64 a0.f0.f2)), .p false (.sc (.int .i64 a0.f0.f3)), .p false (.sc (.int .i64 a0.f0.f4)), .p false (R 4 e69 z69 a0.f1), .p false (.sc (.int .i64 a0.f2.f0)), .p false (.sc (.int .i64 a0.f2.f1)), .p false (R 1 (eI .i64) 0 a0.f2.f2), .p false (.sc (.int .i64 a0.f3)), .p false (.sc (.bool a0.f4)), .p false (.sc (.int .i64 a0.f5.f0)), .p false (.sc (.int .i64 a0.f5.f1)), .p false (R 1 e72 z72 a0.f5.f2), .p false (R 3 e74 z74 a0.f6), .p false (R 1 (eI .i64) 0 a0.f7)]), (4544, .row 3 1 y134.length (fun j => (eI .i64) (y134.getD j 0)) true)]
def spec_YardOk.l0 : Nat → S48 → List Int → Int → Option (List Int)
  | 0, _, _, _ => none
  | kq + 1, a0, v132, v133 => if v133 < (a0.f5.f2.length : Int) then (if 0 ≤ v133 then (if 0 < (((rdD z72 a0.f5.f2 v133).f0).length : Int) then (if (v132.length + 1) * 8 ≤ 140737488355328 then (spec_YardOk.l0 kq a0 (v132 ++ [(rdD 0 ((rdD z72 a0.f5.f2 v133).f0) 0)]) (w64 (v133 + 1))) else none) else none) else none) else (some v132)
def spec_YardOk.h1T (v156 : Int) (a0 : S48) (y134 : (List Int)) (t148 : List Int) (v155 : List Int) : List (Nat × AV) := [(1, .ptr 64 0), (3, .t (.c (.h 4544))), (5, .t (.c (.h 5952))), (6, .t (.c (.h 6016))), (7, .t (.c (.p true (.sc (.int .i64 v156)))))]
def spec_YardOk.h1H (v156 : Int) (a0 : S48) (y134 : (List Int)) (t148 : List Int) (v155 : List Int) : List (Nat × Content) := [(64, .box 48 [.p false (.sc (.int .i64 a0.f0.f0.f0)), .p false (.sc (.int .i64 a0.f0.f0.f1)), .p false (.sc (.string a0.f0.f0.f2)), .p false (.sc (.int .i64 a0.f0.f1)), .p false (.sc (.int .i64 a0.f0.f2)), .p false (.sc (.int .i64 a0.f0.f3)), .p false (.sc (.int .i64 a0.f0.f4)), .p false (R 4 e69 z69 a0.f1), .p false (.sc (.int .i64 a0.f2.f0)), .p false (.sc (.int .i64 a0.f2.f1)), .p false (R 1 (eI .i64) 0 a0.f2.f2), .p false (.sc (.int .i64 a0.f3)), .p false (.sc (.bool a0.f4)), .p false (.sc (.int .i64 a0.f5.f0)), .p false (.sc (.int .i64 a0.f5.f1)), .p false (R 1 e72 z72 a0.f5.f2), .p false (R 3 e74 z74 a0.f6), .p false (R 1 (eI .i64) 0 a0.f7)]), (4544, .row 3 1 y134.length (fun j => (eI .i64) (y134.getD j 0)) true), (5952, .row 3 1 t148.length (fun j => (eI .i64) (t148.getD j 0)) true), (6016, .row 3 1 v155.length (fun j => (eI .i64) (v155.getD j 0)) true)]
def spec_YardOk.x1T (a0 : S48) (y134 : (List Int)) (t148 : List Int) (y158 : (List Int)) : List (Nat × AV) := [(1, .ptr 64 0), (3, .t (.c (.h 4544))), (5, .t (.c (.h 5952))), (6, .t (.c (.h 6016)))]
def spec_YardOk.x1H (a0 : S48) (y134 : (List Int)) (t148 : List Int) (y158 : (List Int)) : List (Nat × Content) := [(64, .box 48 [.p false (.sc (.int .i64 a0.f0.f0.f0)), .p false (.sc (.int .i64 a0.f0.f0.f1)), .p false (.sc (.string a0.f0.f0.f2)), .p false (.sc (.int .i64 a0.f0.f1)), .p false (.sc (.int .i64 a0.f0.f2)), .p false (.sc (.int .i64 a0.f0.f3)), .p false (.sc (.int .i64 a0.f0.f4)), .p false (R 4 e69 z69 a0.f1), .p false (.sc (.int .i64 a0.f2.f0)), .p false (.sc (.int .i64 a0.f2.f1)), .p false (R 1 (eI .i64) 0 a0.f2.f2), .p false (.sc (.int .i64 a0.f3)), .p false (.sc (.bool a0.f4)), .p false (.sc (.int .i64 a0.f5.f0)), .p false (.sc (.int .i64 a0.f5.f1)), .p false (R 1 e72 z72 a0.f5.f2), .p false (R 3 e74 z74 a0.f6), .p false (R 1 (eI .i64) 0 a0.f7)]), (4544, .row 3 1 y134.length (fun j => (eI .i64) (y134.getD j 0)) true), (5952, .row 3 1 t148.length (fun j => (eI .i64) (t148.getD j 0)) true), (6016, .row 3 1 y158.length (fun j => (eI .i64) (y158.getD j 0)) true)]
def spec_YardOk.l1 : Nat → S48 → List Int → List Int → Int → Option (List Int)
  | 0, _, _, _, _ => none
  | kq + 1, a0, t148, v155, v156 => if v156 < (a0.f0.f0.f2.size : Int) then ((spec_l03Has.f kq t148 v156).bind fun t157 => if t157 = true then (spec_YardOk.l1 kq a0 t148 v155 (w64 (v156 + 1))) else (if (v155.length + 1) * 8 ≤ 140737488355328 then (spec_YardOk.l1 kq a0 t148 (v155 ++ [v156]) (w64 (v156 + 1))) else none)) else (some v155)
def spec_YardOk.h3T (v165 : Int) (v170 : Bool) (v169 : Int) (a0 : S48) (y134 : (List Int)) (t148 : List Int) (y158 : (List Int)) : List (Nat × AV) := [(1, .ptr 64 0), (3, .t (.c (.h 4544))), (5, .t (.c (.h 5952))), (6, .t (.c (.h 6016))), (8, .t (.c (.p true (.sc (.int .i64 v165))))), (9, .t (.c (.p true (.sc (.bool v170))))), (10, .t (.c (.p true (.sc (.int .i64 v169)))))]
def spec_YardOk.h3H (v165 : Int) (v170 : Bool) (v169 : Int) (a0 : S48) (y134 : (List Int)) (t148 : List Int) (y158 : (List Int)) : List (Nat × Content) := [(64, .box 48 [.p false (.sc (.int .i64 a0.f0.f0.f0)), .p false (.sc (.int .i64 a0.f0.f0.f1)), .p false (.sc (.string a0.f0.f0.f2)), .p false (.sc (.int .i64 a0.f0.f1)), .p false (.sc (.int .i64 a0.f0.f2)), .p false (.sc (.int .i64 a0.f0.f3)), .p false (.sc (.int .i64 a0.f0.f4)), .p false (R 4 e69 z69 a0.f1), .p false (.sc (.int .i64 a0.f2.f0)), .p false (.sc (.int .i64 a0.f2.f1)), .p false (R 1 (eI .i64) 0 a0.f2.f2), .p false (.sc (.int .i64 a0.f3)), .p false (.sc (.bool a0.f4)), .p false (.sc (.int .i64 a0.f5.f0)), .p false (.sc (.int .i64 a0.f5.f1)), .p false (R 1 e72 z72 a0.f5.f2), .p false (R 3 e74 z74 a0.f6), .p false (R 1 (eI .i64) 0 a0.f7)]), (4544, .row 3 1 y134.length (fun j => (eI .i64) (y134.getD j 0)) true), (5952, .row 3 1 t148.length (fun j => (eI .i64) (t148.getD j 0)) true), (6016, .row 3 1 y158.length (fun j => (eI .i64) (y158.getD j 0)) true)]
def spec_YardOk.x3T (v165 : Int) (y171 : Bool) (a0 : S48) (y134 : (List Int)) (t148 : List Int) (y158 : (List Int)) : List (Nat × AV) := [(1, .ptr 64 0), (3, .t (.c (.h 4544))), (5, .t (.c (.h 5952))), (6, .t (.c (.h 6016))), (8, .t (.c (.p true (.sc (.int .i64 v165))))), (9, .t (.c (.p true (.sc (.bool y171)))))]
def spec_YardOk.x3H (v165 : Int) (y171 : Bool) (a0 : S48) (y134 : (List Int)) (t148 : List Int) (y158 : (List Int)) : List (Nat × Content) := [(64, .box 48 [.p false (.sc (.int .i64 a0.f0.f0.f0)), .p false (.sc (.int .i64 a0.f0.f0.f1)), .p false (.sc (.string a0.f0.f0.f2)), .p false (.sc (.int .i64 a0.f0.f1)), .p false (.sc (.int .i64 a0.f0.f2)), .p false (.sc (.int .i64 a0.f0.f3)), .p false (.sc (.int .i64 a0.f0.f4)), .p false (R 4 e69 z69 a0.f1), .p false (.sc (.int .i64 a0.f2.f0)), .p false (.sc (.int .i64 a0.f2.f1)), .p false (R 1 (eI .i64) 0 a0.f2.f2), .p false (.sc (.int .i64 a0.f3)), .p false (.sc (.bool a0.f4)), .p false (.sc (.int .i64 a0.f5.f0)), .p false (.sc (.int .i64 a0.f5.f1)), .p false (R 1 e72 z72 a0.f5.f2), .p false (R 3 e74 z74 a0.f6), .p false (R 1 (eI .i64) 0 a0.f7)]), (4544, .row 3 1 y134.length (fun j => (eI .i64) (y134.getD j 0)) true), (5952, .row 3 1 t148.length (fun j => (eI .i64) (t148.getD j 0)) true), (6016, .row 3 1 y158.length (fun j => (eI .i64) (y158.getD j 0)) true)]
def spec_YardOk.l3 : Nat → S48 → Int → Int → Bool → Option Bool
  | 0, _, _, _, _ => none
  | kq + 1, a0, v165, v169, v170 => if v169 < (a0.f6.length : Int) then (if 0 ≤ v169 then (if 0 ≤ v165 then (if (rdD z74 a0.f6 v169).f0 = (rdD z69 a0.f1 v165).f0 then (spec_YardOk.l3 kq a0 v165 (w64 (v169 + 1)) true) else (spec_YardOk.l3 kq a0 v165 (w64 (v169 + 1)) v170)) else none) else none) else (some v170)
def spec_YardOk.h2T (v165 : Int) (a0 : S48) (y134 : (List Int)) (t148 : List Int) (y158 : (List Int)) : List (Nat × AV) := [(1, .ptr 64 0), (3, .t (.c (.h 4544))), (5, .t (.c (.h 5952))), (6, .t (.c (.h 6016))), (8, .t (.c (.p true (.sc (.int .i64 v165)))))]
def spec_YardOk.h2H (v165 : Int) (a0 : S48) (y134 : (List Int)) (t148 : List Int) (y158 : (List Int)) : List (Nat × Content) := [(64, .box 48 [.p false (.sc (.int .i64 a0.f0.f0.f0)), .p false (.sc (.int .i64 a0.f0.f0.f1)), .p false (.sc (.string a0.f0.f0.f2)), .p false (.sc (.int .i64 a0.f0.f1)), .p false (.sc (.int .i64 a0.f0.f2)), .p false (.sc (.int .i64 a0.f0.f3)), .p false (.sc (.int .i64 a0.f0.f4)), .p false (R 4 e69 z69 a0.f1), .p false (.sc (.int .i64 a0.f2.f0)), .p false (.sc (.int .i64 a0.f2.f1)), .p false (R 1 (eI .i64) 0 a0.f2.f2), .p false (.sc (.int .i64 a0.f3)), .p false (.sc (.bool a0.f4)), .p false (.sc (.int .i64 a0.f5.f0)), .p false (.sc (.int .i64 a0.f5.f1)), .p false (R 1 e72 z72 a0.f5.f2), .p false (R 3 e74 z74 a0.f6), .p false (R 1 (eI .i64) 0 a0.f7)]), (4544, .row 3 1 y134.length (fun j => (eI .i64) (y134.getD j 0)) true), (5952, .row 3 1 t148.length (fun j => (eI .i64) (t148.getD j 0)) true), (6016, .row 3 1 y158.length (fun j => (eI .i64) (y158.getD j 0)) true)]
def spec_YardOk.l2 : Nat → S48 → List Int → (List Int) → (List Int) → Int → Option Bool
  | 0, _, _, _, _, _ => none
  | kq + 1, a0, t148, y158, y134, v165 => if v165 < (a0.f1.length : Int) then ((spec_YardOk.l3 kq a0 v165 0 false).bind fun y171 => (if y171 = true then (spec_YardOk.l2 kq a0 t148 y158 y134 (w64 (v165 + 1))) else (if 0 ≤ v165 then ((spec_l03Has.f kq t148 ((rdD z69 a0.f1 v165).f1)).bind fun t172 => if t172 = true then (some false) else ((spec_l03Has.f kq t148 ((rdD z69 a0.f1 v165).f2)).bind fun t173 => if t173 = true then (some false) else (spec_YardOk.l2 kq a0 t148 y158 y134 (w64 (v165 + 1))))) else none))) else ((spec_Walled.f kq a0.f0.f0 y158).bind fun t178 => (spec_PlanFault.f kq t178 y134 a0.f7 a0.f5).bind fun t304 => some (decide (t304 = 0)))
def spec_YardOk.f (k : Nat) (a0 : S48) : Option Bool := (spec_SetupOk.f k a0.f0).bind fun t61 => if t61 = true then ((spec_RobotsOk.f k a0.f0.f0 a0.f1).bind fun t102 => if t102 = true then ((spec_WindowOk.f k a0.f2).bind fun t108 => if t108 = true then (if a0.f2.f0 = a0.f0.f2 then (if a0.f2.f1 = a0.f0.f3 then ((spec_l01In.f a0.f3 0 1000000000).bind fun t109 => if t109 = true then ((spec_JobsOk.f k a0).bind fun t124 => if t124 = true then ((spec_l10Cells.f k a0.f0.f0 a0.f7).bind fun t128 => if t128 = true then (if a0.f4 = true then ((spec_YardOk.l0 k a0 ([] : List Int) 0).bind fun y134 => ((spec_Footprint.f k a0).bind fun t148 => (spec_YardOk.l1 k a0 t148 ([] : List Int) 0).bind fun y158 => (spec_YardOk.l2 k a0 t148 y158 y134 0))) else (some true)) else (some false)) else (some false)) else (some false)) else (some false)) else (some false)) else (some false)) else (some false)) else (some false)
theorem spec_YardOk.go : Callable Tryz.prog 32 := ⟨_, Tryz.func32, by kernel_rfl, rfl⟩
theorem spec_YardOk.ok (k : Nat) (a0 : S48) (r : Bool) (h : spec_YardOk.f k a0 = some r) : VCalls Tryz.prog 32 [.agg (e48 a0)] [.c (.p (.sc (.bool r)))] := by
  unfold spec_YardOk.f at h
  refine VCalls.of (fn := Tryz.f32) (N := 173) Tryz.func32 rfl rfl (fun w0 => ?_)
  obtain ⟨t61, g130, h⟩ := bindN h
  let C130 := mkCon (spec_SetupOk.ok k a0.f0 t61 g130) spec_SetupOk.go
  by_cases c131 : t61 = true
  · replace h := (if_pos c131).symm.trans h
    obtain ⟨t102, g243, h⟩ := bindN h
    let C243 := mkCon (spec_RobotsOk.ok k a0.f0.f0 a0.f1 t102 g243) spec_RobotsOk.go
    by_cases c244 : t102 = true
    · replace h := (if_pos c244).symm.trans h
      obtain ⟨t108, g257, h⟩ := bindN h
      let C257 := mkCon (spec_WindowOk.ok k a0.f2 t108 g257) spec_WindowOk.go
      by_cases c258 : t108 = true
      · replace h := (if_pos c258).symm.trans h
        by_cases c259 : a0.f2.f0 = a0.f0.f2
        · replace h := (if_pos c259).symm.trans h
          by_cases c260 : a0.f2.f1 = a0.f0.f3
          · replace h := (if_pos c260).symm.trans h
            obtain ⟨t109, g261, h⟩ := bindN h
            let C261 := mkCon (spec_l01In.ok a0.f3 0 1000000000 t109 g261) spec_l01In.go
            by_cases c262 : t109 = true
            · replace h := (if_pos c262).symm.trans h
              obtain ⟨t124, g321, h⟩ := bindN h
              let C321 := mkCon (spec_JobsOk.ok k a0 t124 g321) spec_JobsOk.go
              by_cases c322 : t124 = true
              · replace h := (if_pos c322).symm.trans h
                obtain ⟨t128, g338, h⟩ := bindN h
                let C338 := mkCon (spec_l10Cells.ok k a0.f0.f0 a0.f7 t128 g338) spec_l10Cells.go
                by_cases c339 : t128 = true
                · replace h := (if_pos c339).symm.trans h
                  by_cases c340 : a0.f4 = true
                  · replace h := (if_pos c340).symm.trans h
                    have H0 : ∀ (kq : Nat) (v132 : List Int) (v133 : Int) (x : (List Int)), spec_YardOk.l0 kq a0 v132 v133 = some x → AG Tryz.prog 32 173 [.c (.p (.sc (.bool r)))] w0 (exitStk (codeOf Tryz.f32) 0) (mkFS (spec_YardOk.x0T a0 x) (spec_YardOk.x0H a0 x)) → AG Tryz.prog 32 173 [.c (.p (.sc (.bool r)))] w0 (headStk (codeOf Tryz.f32) 0) (mkFS (spec_YardOk.h0T v133 a0 v132) (spec_YardOk.h0H v133 a0 v132)) := by
                      intro kq
                      induction kq with
                      | zero => intro v132 v133 x h hx; cases h
                      | succ kq ih =>
                        intro v132 v133 x h hx
                        rw [spec_YardOk.l0] at h
                        by_cases c352 : v133 < (a0.f5.f2.length : Int)
                        · replace h := (if_pos c352).symm.trans h
                          obtain ⟨c353, h⟩ := ifN h
                          obtain ⟨c354, h⟩ := ifN h
                          obtain ⟨c355, h⟩ := ifN h
                          exact byHead MX Tryz.func32 1000 [.b true, rowe 90 (eI .i64) 0 ([(rdD 0 ((rdD z72 a0.f5.f2 v133).f0) 0)]), .aft 91, orow 4544 (eI .i64) 0 (v132 ++ [(rdD 0 ((rdD z72 a0.f5.f2 v133).f0) 0)]), .fin] (o1 (decide_eq_true c352) (o1 c353 (o1 c352 (o1 (by decide : (0 : Int) ≤ 0) (o1 c354 (o1 (GE.lit 1 (eI .i64) 0 [(rdD 0 ((rdD z72 a0.f5.f2 v133).f0) 0)] (by intro x; rfl)) (o1 c355 (o1 (GE.app (e := (eI .i64)) (d := 0) v132 ([(rdD 0 ((rdD z72 a0.f5.f2 v133).f0) 0)]) rfl (fun _ _ => CE.refl _) rfl) on)))))))) (ih (v132 ++ [(rdD 0 ((rdD z72 a0.f5.f2 v133).f0) 0)]) (w64 (v133 + 1)) _ h hx) (by kernel_rfl)
                        · replace h := (if_neg c352).symm.trans h
                          cases h
                          exact byStop MX Tryz.func32 1000 [.b false, .fin] (o1 (decide_eq_false c352) on) hx (by kernel_rfl)
                    obtain ⟨y134, g940, h⟩ := bindN h
                    refine byHead MX Tryz.func32 1000 [.call C130, .dec 15 false, .call C243, .dec 24 false, .call C257, .dec 30 false, .dec 39 false, .dec 48 false, .call C261, .dec 54 false, .call C321, .dec 59 false, .call C338, .b false, .b false, rowe 71 (eI .i64) 0 ([] : List Int), .fin] (oa (sc_ C130) (o1 (bnf c131) (oa (sc_ C243) (o1 (bnf c244) (oa (sc_ C257) (o1 (bnf c258) (o1 (bnf (decide_eq_true c259)) (o1 (bnf (decide_eq_true c260)) (oa (sc_ C261) (o1 (bnf c262) (oa (sc_ C321) (o1 (bnf c322) (oa (sc_ C338) (o1 (bnf c339) (o1 (bnf c340) (o1 (GE.lit 1 (eI .i64) 0 ([] : List Int) (by intro x; rfl)) on)))))))))))))))) (H0 k ([] : List Int) 0 _ g940 ?_) (by kernel_rfl)
                    obtain ⟨t148, g444, h⟩ := bindN h
                    let C444 := mkCon (spec_Footprint.ok k a0 t148 g444) spec_Footprint.go
                    have H1 : ∀ (kq : Nat) (v155 : List Int) (v156 : Int) (x : (List Int)), spec_YardOk.l1 kq a0 t148 v155 v156 = some x → AG Tryz.prog 32 173 [.c (.p (.sc (.bool r)))] w0 (exitStk (codeOf Tryz.f32) 1) (mkFS (spec_YardOk.x1T a0 y134 t148 x) (spec_YardOk.x1H a0 y134 t148 x)) → AG Tryz.prog 32 173 [.c (.p (.sc (.bool r)))] w0 (headStk (codeOf Tryz.f32) 1) (mkFS (spec_YardOk.h1T v156 a0 y134 t148 v155) (spec_YardOk.h1H v156 a0 y134 t148 v155)) := by
                      intro kq
                      induction kq with
                      | zero => intro v155 v156 x h hx; cases h
                      | succ kq ih =>
                        intro v155 v156 x h hx
                        rw [spec_YardOk.l1] at h
                        by_cases c456 : v156 < (a0.f0.f0.f2.size : Int)
                        · replace h := (if_pos c456).symm.trans h
                          obtain ⟨t157, g457, h⟩ := bindN h
                          let C457 := mkCon (spec_l03Has.ok kq t148 v156 t157 g457) spec_l03Has.go
                          by_cases c458 : t157 = true
                          · replace h := (if_pos c458).symm.trans h
                            exact byHead MX Tryz.func32 1000 [.b true, .call C457, .b false, .fin] (o1 (decide_eq_true c456) (oa (sc_ C457) (o1 (bnf c458) on))) (ih v155 (w64 (v156 + 1)) _ h hx) (by kernel_rfl)
                          · replace h := (if_neg c458).symm.trans h
                            obtain ⟨c459, h⟩ := ifN h
                            exact byHead MX Tryz.func32 1000 [.b true, .call C457, .b true, rowe 110 (eI .i64) 0 ([v156]), .aft 111, orow 6016 (eI .i64) 0 (v155 ++ [v156]), .fin] (o1 (decide_eq_true c456) (oa (sc_ C457) (o1 (bnt (eqf c458)) (o1 (GE.lit 1 (eI .i64) 0 [v156] (by intro x; rfl)) (o1 c459 (o1 (GE.app (e := (eI .i64)) (d := 0) v155 ([v156]) rfl (fun _ _ => CE.refl _) rfl) on)))))) (ih (v155 ++ [v156]) (w64 (v156 + 1)) _ h hx) (by kernel_rfl)
                        · replace h := (if_neg c456).symm.trans h
                          cases h
                          exact byStop MX Tryz.func32 1000 [.b false, .fin] (o1 (decide_eq_false c456) on) hx (by kernel_rfl)
                    obtain ⟨y158, g939, h⟩ := bindN h
                    refine byHead MX Tryz.func32 1000 [.call C444, rowe 94 (eI .i64) 0 ([] : List Int), .fin] (oa (sc_ C444) (o1 (GE.lit 1 (eI .i64) 0 ([] : List Int) (by intro x; rfl)) on)) (H1 k ([] : List Int) 0 _ g939 ?_) (by kernel_rfl)
                    have H2 : ∀ (kq : Nat) (v165 : Int), spec_YardOk.l2 kq a0 t148 y158 y134 v165 = some r → AG Tryz.prog 32 173 [.c (.p (.sc (.bool r)))] w0 (headStk (codeOf Tryz.f32) 2) (mkFS (spec_YardOk.h2T v165 a0 y134 t148 y158) (spec_YardOk.h2H v165 a0 y134 t148 y158)) := by
                      intro kq
                      induction kq with
                      | zero => intro v165 h; cases h
                      | succ kq ih =>
                        intro v165 h
                        rw [spec_YardOk.l2] at h
                        by_cases c472 : v165 < (a0.f1.length : Int)
                        · replace h := (if_pos c472).symm.trans h
                          have H3 : ∀ (kq : Nat) (v169 : Int) (v170 : Bool) (x : Bool), spec_YardOk.l3 kq a0 v165 v169 v170 = some x → AG Tryz.prog 32 173 [.c (.p (.sc (.bool r)))] w0 (exitStk (codeOf Tryz.f32) 3) (mkFS (spec_YardOk.x3T v165 x a0 y134 t148 y158) (spec_YardOk.x3H v165 x a0 y134 t148 y158)) → AG Tryz.prog 32 173 [.c (.p (.sc (.bool r)))] w0 (headStk (codeOf Tryz.f32) 3) (mkFS (spec_YardOk.h3T v165 v170 v169 a0 y134 t148 y158) (spec_YardOk.h3H v165 v170 v169 a0 y134 t148 y158)) := by
                            intro kq
                            induction kq with
                            | zero => intro v169 v170 x h hx; cases h
                            | succ kq ih =>
                              intro v169 v170 x h hx
                              rw [spec_YardOk.l3] at h
                              by_cases c483 : v169 < (a0.f6.length : Int)
                              · replace h := (if_pos c483).symm.trans h
                                obtain ⟨c484, h⟩ := ifN h
                                obtain ⟨c485, h⟩ := ifN h
                                by_cases c486 : (rdD z74 a0.f6 v169).f0 = (rdD z69 a0.f1 v165).f0
                                · replace h := (if_pos c486).symm.trans h
                                  exact byHead MX Tryz.func32 1000 [.b true, .b true, .fin] (o1 (decide_eq_true c483) (o1 c484 (o1 c483 (o1 c485 (o1 c472 (o1 (decide_eq_true c486) on)))))) (ih (w64 (v169 + 1)) true _ h hx) (by kernel_rfl)
                                · replace h := (if_neg c486).symm.trans h
                                  exact byHead MX Tryz.func32 1000 [.b true, .b false, .fin] (o1 (decide_eq_true c483) (o1 c484 (o1 c483 (o1 c485 (o1 c472 (o1 (decide_eq_false c486) on)))))) (ih (w64 (v169 + 1)) v170 _ h hx) (by kernel_rfl)
                              · replace h := (if_neg c483).symm.trans h
                                cases h
                                exact byStop MX Tryz.func32 1000 [.b false, .fin] (o1 (decide_eq_false c483) on) hx (by kernel_rfl)
                          obtain ⟨y171, g493, h⟩ := bindN h
                          refine byHead MX Tryz.func32 1000 [.b true, .fin] (o1 (decide_eq_true c472) on) (H3 kq 0 false _ g493 ?_) (by kernel_rfl)
                          by_cases c487 : y171 = true
                          · replace h := (if_pos c487).symm.trans h
                            exact byHead MX Tryz.func32 1000 [.dec 141 false, .b false, .fin] (o1 (bnf c487) (o1 (rfl : false = false) on)) (ih (w64 (v165 + 1)) h) (by kernel_rfl)
                          · replace h := (if_neg c487).symm.trans h
                            obtain ⟨c488, h⟩ := ifN h
                            obtain ⟨t172, g489, h⟩ := bindN h
                            let C489 := mkCon (spec_l03Has.ok kq t148 ((rdD z69 a0.f1 v165).f1) t172 g489) spec_l03Has.go
                            by_cases c490 : t172 = true
                            · replace h := (if_pos c490).symm.trans h
                              cases h
                              exact byRet MX Tryz.func32 1000 [.dec 141 true, .call C489, .dec 150 true, .b true, .fin] (o1 (bnt (eqf c487)) (o1 c488 (o1 c472 (oa (sc_ C489) (o1 c490 (o1 (rfl : true = true) on)))))) (by kernel_rfl)
                            · replace h := (if_neg c490).symm.trans h
                              obtain ⟨t173, g491, h⟩ := bindN h
                              let C491 := mkCon (spec_l03Has.ok kq t148 ((rdD z69 a0.f1 v165).f2) t173 g491) spec_l03Has.go
                              by_cases c492 : t173 = true
                              · replace h := (if_pos c492).symm.trans h
                                cases h
                                exact byRet MX Tryz.func32 1000 [.dec 141 true, .call C489, .dec 150 false, .call C491, .b true, .fin] (o1 (bnt (eqf c487)) (o1 c488 (o1 c472 (oa (sc_ C489) (o1 (eqf c490) (o1 c488 (o1 c472 (oa (sc_ C491) (o1 c492 on))))))))) (by kernel_rfl)
                              · replace h := (if_neg c492).symm.trans h
                                exact byHead MX Tryz.func32 1000 [.dec 141 true, .call C489, .dec 150 false, .call C491, .b false, .fin] (o1 (bnt (eqf c487)) (o1 c488 (o1 c472 (oa (sc_ C489) (o1 (eqf c490) (o1 c488 (o1 c472 (oa (sc_ C491) (o1 (eqf c492) on))))))))) (ih (w64 (v165 + 1)) h) (by kernel_rfl)
                        · replace h := (if_neg c472).symm.trans h
                          obtain ⟨t178, g509, h⟩ := bindN h
                          let C509 := mkCon (spec_Walled.ok kq a0.f0.f0 y158 t178 g509) spec_Walled.go
                          obtain ⟨t304, g938, h⟩ := bindN h
                          let C938 := mkCon (spec_PlanFault.ok kq t178 y134 a0.f7 a0.f5 t304 g938) spec_PlanFault.go
                          cases h
                          exact byRet MX Tryz.func32 1000 [.b false, .fin, .call C509, .call C938, .fin] (o1 (decide_eq_false c472) (oa (sc_ C509) (oa (sc_ C938) on))) (by kernel_rfl)
                    exact byHead MX Tryz.func32 1000 [.fin] on (H2 k 0 h) (by kernel_rfl)
                  · replace h := (if_neg c340).symm.trans h
                    cases h
                    exact byRet MX Tryz.func32 1000 [.call C130, .dec 15 false, .call C243, .dec 24 false, .call C257, .dec 30 false, .dec 39 false, .dec 48 false, .call C261, .dec 54 false, .call C321, .dec 59 false, .call C338, .b false, .b true, .fin] (oa (sc_ C130) (o1 (bnf c131) (oa (sc_ C243) (o1 (bnf c244) (oa (sc_ C257) (o1 (bnf c258) (o1 (bnf (decide_eq_true c259)) (o1 (bnf (decide_eq_true c260)) (oa (sc_ C261) (o1 (bnf c262) (oa (sc_ C321) (o1 (bnf c322) (oa (sc_ C338) (o1 (bnf c339) (o1 (bnt (eqf c340)) on))))))))))))))) (by kernel_rfl)
                · replace h := (if_neg c339).symm.trans h
                  cases h
                  exact byRet MX Tryz.func32 1000 [.call C130, .dec 15 false, .call C243, .dec 24 false, .call C257, .dec 30 false, .dec 39 false, .dec 48 false, .call C261, .dec 54 false, .call C321, .dec 59 false, .call C338, .b true, .fin] (oa (sc_ C130) (o1 (bnf c131) (oa (sc_ C243) (o1 (bnf c244) (oa (sc_ C257) (o1 (bnf c258) (o1 (bnf (decide_eq_true c259)) (o1 (bnf (decide_eq_true c260)) (oa (sc_ C261) (o1 (bnf c262) (oa (sc_ C321) (o1 (bnf c322) (oa (sc_ C338) (o1 (bnt (eqf c339)) on)))))))))))))) (by kernel_rfl)
              · replace h := (if_neg c322).symm.trans h
                cases h
                exact byRet MX Tryz.func32 1000 [.call C130, .dec 15 false, .call C243, .dec 24 false, .call C257, .dec 30 false, .dec 39 false, .dec 48 false, .call C261, .dec 54 false, .call C321, .dec 59 true, .b true, .fin] (oa (sc_ C130) (o1 (bnf c131) (oa (sc_ C243) (o1 (bnf c244) (oa (sc_ C257) (o1 (bnf c258) (o1 (bnf (decide_eq_true c259)) (o1 (bnf (decide_eq_true c260)) (oa (sc_ C261) (o1 (bnf c262) (oa (sc_ C321) (o1 (bnt (eqf c322)) (o1 (rfl : true = true) on))))))))))))) (by kernel_rfl)
            · replace h := (if_neg c262).symm.trans h
              cases h
              exact byRet MX Tryz.func32 1000 [.call C130, .dec 15 false, .call C243, .dec 24 false, .call C257, .dec 30 false, .dec 39 false, .dec 48 false, .call C261, .dec 54 true, .b true, .fin] (oa (sc_ C130) (o1 (bnf c131) (oa (sc_ C243) (o1 (bnf c244) (oa (sc_ C257) (o1 (bnf c258) (o1 (bnf (decide_eq_true c259)) (o1 (bnf (decide_eq_true c260)) (oa (sc_ C261) (o1 (bnt (eqf c262)) (o1 (rfl : true = true) on))))))))))) (by kernel_rfl)
          · replace h := (if_neg c260).symm.trans h
            cases h
            exact byRet MX Tryz.func32 1000 [.call C130, .dec 15 false, .call C243, .dec 24 false, .call C257, .dec 30 false, .dec 39 false, .dec 48 true, .b true, .fin] (oa (sc_ C130) (o1 (bnf c131) (oa (sc_ C243) (o1 (bnf c244) (oa (sc_ C257) (o1 (bnf c258) (o1 (bnf (decide_eq_true c259)) (o1 (bnt (decide_eq_false c260)) (o1 (rfl : true = true) on))))))))) (by kernel_rfl)
        · replace h := (if_neg c259).symm.trans h
          cases h
          exact byRet MX Tryz.func32 1000 [.call C130, .dec 15 false, .call C243, .dec 24 false, .call C257, .dec 30 false, .dec 39 true, .b true, .fin] (oa (sc_ C130) (o1 (bnf c131) (oa (sc_ C243) (o1 (bnf c244) (oa (sc_ C257) (o1 (bnf c258) (o1 (bnt (decide_eq_false c259)) (o1 (rfl : true = true) on)))))))) (by kernel_rfl)
      · replace h := (if_neg c258).symm.trans h
        cases h
        exact byRet MX Tryz.func32 1000 [.call C130, .dec 15 false, .call C243, .dec 24 false, .call C257, .dec 30 true, .b true, .fin] (oa (sc_ C130) (o1 (bnf c131) (oa (sc_ C243) (o1 (bnf c244) (oa (sc_ C257) (o1 (bnt (eqf c258)) (o1 (rfl : true = true) on))))))) (by kernel_rfl)
    · replace h := (if_neg c244).symm.trans h
      cases h
      exact byRet MX Tryz.func32 1000 [.call C130, .dec 15 false, .call C243, .dec 24 true, .b true, .fin] (oa (sc_ C130) (o1 (bnf c131) (oa (sc_ C243) (o1 (bnt (eqf c244)) (o1 (rfl : true = true) on))))) (by kernel_rfl)
  · replace h := (if_neg c131).symm.trans h
    cases h
    exact byRet MX Tryz.func32 1000 [.call C130, .dec 15 true, .b true, .fin] (oa (sc_ C130) (o1 (bnt (eqf c131)) (o1 (rfl : true = true) on))) (by kernel_rfl)

/-! ### spec_OrdersOf: function 16 -/
def spec_OrdersOf.h0T (t306 : Int) (v310 : Int) (a0 : S48) (v309 : List S92) : List (Nat × AV) := [(1, .ptr 64 0), (3, .t (.c (.h 512))), (4, .t (.c (.p true (.sc (.int .i64 t306))))), (5, .t (.c (.p true (.sc (.int .i64 v310)))))]
def spec_OrdersOf.h0H (t306 : Int) (v310 : Int) (a0 : S48) (v309 : List S92) : List (Nat × Content) := [(64, .box 48 [.p false (.sc (.int .i64 a0.f0.f0.f0)), .p false (.sc (.int .i64 a0.f0.f0.f1)), .p false (.sc (.string a0.f0.f0.f2)), .p false (.sc (.int .i64 a0.f0.f1)), .p false (.sc (.int .i64 a0.f0.f2)), .p false (.sc (.int .i64 a0.f0.f3)), .p false (.sc (.int .i64 a0.f0.f4)), .p false (R 4 e69 z69 a0.f1), .p false (.sc (.int .i64 a0.f2.f0)), .p false (.sc (.int .i64 a0.f2.f1)), .p false (R 1 (eI .i64) 0 a0.f2.f2), .p false (.sc (.int .i64 a0.f3)), .p false (.sc (.bool a0.f4)), .p false (.sc (.int .i64 a0.f5.f0)), .p false (.sc (.int .i64 a0.f5.f1)), .p false (R 1 e72 z72 a0.f5.f2), .p false (R 3 e74 z74 a0.f6), .p false (R 1 (eI .i64) 0 a0.f7)]), (512, .row 92 3 v309.length (fun j => e92 (v309.getD j z92)) true)]
def spec_OrdersOf.l0 : Nat → S48 → Int → List S92 → Int → Option (List S92)
  | 0, _, _, _, _ => none
  | kq + 1, a0, t306, v309, v310 => if v310 < (a0.f6.length : Int) then (if 0 ≤ v310 then (if v310 < (a0.f5.f2.length : Int) then (if (rdD z74 a0.f6 v310).f1 = t306 then (if (rdD z74 a0.f6 v310).f2 = true then (spec_OrdersOf.l0 kq a0 t306 v309 (w64 (v310 + 1))) else (if 0 ≤ (w64 ((rdD z74 a0.f6 v310).f1 + 1)) then (if (w64 ((rdD z74 a0.f6 v310).f1 + 1)) < (((rdD z72 a0.f5.f2 v310).f0).length : Int) then ((spec_HolderOf.f kq a0.f1 (rdD 0 ((rdD z72 a0.f5.f2 v310).f0) (w64 ((rdD z74 a0.f6 v310).f1 + 1)))).bind fun t311 => if t311 < 0 then (if 0 ≤ (rdD z74 a0.f6 v310).f1 then (if (rdD z74 a0.f6 v310).f1 < (((rdD z72 a0.f5.f2 v310).f0).length : Int) then (if (v309.length + 1) * 24 ≤ 140737488355328 then (spec_OrdersOf.l0 kq a0 t306 (v309 ++ [(⟨(rdD z74 a0.f6 v310).f0, (rdD 0 ((rdD z72 a0.f5.f2 v310).f0) ((rdD z74 a0.f6 v310).f1)), (rdD 0 ((rdD z72 a0.f5.f2 v310).f0) (w64 ((rdD z74 a0.f6 v310).f1 + 1)))⟩ : S92)]) (w64 (v310 + 1))) else none) else none) else none) else (spec_OrdersOf.l0 kq a0 t306 v309 (w64 (v310 + 1)))) else none) else none)) else (spec_OrdersOf.l0 kq a0 t306 v309 (w64 (v310 + 1)))) else none) else none) else (some v309)
def spec_OrdersOf.f (k : Nat) (a0 : S48) : Option (List S92) := (spec_YardOk.f k a0).bind fun t305 => if t305 = true then (if a0.f4 = true then ((spec_LayerOf.f k a0).bind fun t306 => spec_OrdersOf.l0 k a0 t306 ([] : List S92) 0) else (some ([] : List S92))) else (some ([] : List S92))
theorem spec_OrdersOf.go : Callable Tryz.prog 16 := ⟨_, Tryz.func16, by kernel_rfl, rfl⟩
theorem spec_OrdersOf.ok (k : Nat) (a0 : S48) (r : (List S92)) (h : spec_OrdersOf.f k a0 = some r) : VCalls Tryz.prog 16 [.agg (e48 a0)] [.c (.own 92 3 r.length (fun j => e92 (r.getD j z92)))] := by
  unfold spec_OrdersOf.f at h
  refine VCalls.of (fn := Tryz.f16) (N := 78) Tryz.func16 rfl rfl (fun w0 => ?_)
  obtain ⟨t305, g941, h⟩ := bindN h
  let C941 := mkCon (spec_YardOk.ok k a0 t305 g941) spec_YardOk.go
  by_cases c942 : t305 = true
  · replace h := (if_pos c942).symm.trans h
    by_cases c943 : a0.f4 = true
    · replace h := (if_pos c943).symm.trans h
      obtain ⟨t306, g944, h⟩ := bindN h
      let C944 := mkCon (spec_LayerOf.ok k a0 t306 g944) spec_LayerOf.go
      have H0 : ∀ (kq : Nat) (v309 : List S92) (v310 : Int), spec_OrdersOf.l0 kq a0 t306 v309 v310 = some r → AG Tryz.prog 16 78 [.c (.own 92 3 r.length (fun j => e92 (r.getD j z92)))] w0 (headStk (codeOf Tryz.f16) 0) (mkFS (spec_OrdersOf.h0T t306 v310 a0 v309) (spec_OrdersOf.h0H t306 v310 a0 v309)) := by
        intro kq
        induction kq with
        | zero => intro v309 v310 h; cases h
        | succ kq ih =>
          intro v309 v310 h
          rw [spec_OrdersOf.l0] at h
          by_cases c961 : v310 < (a0.f6.length : Int)
          · replace h := (if_pos c961).symm.trans h
            obtain ⟨c962, h⟩ := ifN h
            obtain ⟨c963, h⟩ := ifN h
            by_cases c964 : (rdD z74 a0.f6 v310).f1 = t306
            · replace h := (if_pos c964).symm.trans h
              by_cases c965 : (rdD z74 a0.f6 v310).f2 = true
              · replace h := (if_pos c965).symm.trans h
                exact byHead MX Tryz.func16 1000 [.b true, .dec 43 true, .dec 48 false, .b false, .fin] (o1 (decide_eq_true c961) (o1 c962 (o1 c961 (o1 c962 (o1 c963 (o1 (decide_eq_true c964) (o1 (bnf c965) (o1 (rfl : false = false) on)))))))) (ih v309 (w64 (v310 + 1)) h) (by kernel_rfl)
              · replace h := (if_neg c965).symm.trans h
                obtain ⟨c966, h⟩ := ifN h
                obtain ⟨c967, h⟩ := ifN h
                obtain ⟨t311, g968, h⟩ := bindN h
                let C968 := mkCon (spec_HolderOf.ok kq a0.f1 (rdD 0 ((rdD z72 a0.f5.f2 v310).f0) (w64 ((rdD z74 a0.f6 v310).f1 + 1))) t311 g968) spec_HolderOf.go
                by_cases c969 : t311 < 0
                · replace h := (if_pos c969).symm.trans h
                  obtain ⟨c970, h⟩ := ifN h
                  obtain ⟨c971, h⟩ := ifN h
                  obtain ⟨c972, h⟩ := ifN h
                  exact byHead MX Tryz.func16 1000 [.b true, .dec 43 true, .dec 48 true, .call C968, .b true, rowe 75 e92 z92 ([(⟨(rdD z74 a0.f6 v310).f0, (rdD 0 ((rdD z72 a0.f5.f2 v310).f0) ((rdD z74 a0.f6 v310).f1)), (rdD 0 ((rdD z72 a0.f5.f2 v310).f0) (w64 ((rdD z74 a0.f6 v310).f1 + 1)))⟩ : S92)]), .aft 76, orow 512 e92 z92 (v309 ++ [(⟨(rdD z74 a0.f6 v310).f0, (rdD 0 ((rdD z72 a0.f5.f2 v310).f0) ((rdD z74 a0.f6 v310).f1)), (rdD 0 ((rdD z72 a0.f5.f2 v310).f0) (w64 ((rdD z74 a0.f6 v310).f1 + 1)))⟩ : S92)]), .fin] (o1 (decide_eq_true c961) (o1 c962 (o1 c961 (o1 c962 (o1 c963 (o1 (decide_eq_true c964) (o1 (bnt (eqf c965)) (o1 c966 (o1 c967 (oa (sc_ C968) (o1 (decide_eq_true c969) (o1 c970 (o1 c971 (o1 c966 (o1 c967 (o1 (GE.lit 3 e92 z92 [(⟨(rdD z74 a0.f6 v310).f0, (rdD 0 ((rdD z72 a0.f5.f2 v310).f0) ((rdD z74 a0.f6 v310).f1)), (rdD 0 ((rdD z72 a0.f5.f2 v310).f0) (w64 ((rdD z74 a0.f6 v310).f1 + 1)))⟩ : S92)] (by intro x; rfl)) (o1 c972 (o1 (GE.app (e := e92) (d := z92) v309 ([(⟨(rdD z74 a0.f6 v310).f0, (rdD 0 ((rdD z72 a0.f5.f2 v310).f0) ((rdD z74 a0.f6 v310).f1)), (rdD 0 ((rdD z72 a0.f5.f2 v310).f0) (w64 ((rdD z74 a0.f6 v310).f1 + 1)))⟩ : S92)]) rfl (fun _ _ => CE.refl _) rfl) on)))))))))))))))))) (ih (v309 ++ [(⟨(rdD z74 a0.f6 v310).f0, (rdD 0 ((rdD z72 a0.f5.f2 v310).f0) ((rdD z74 a0.f6 v310).f1)), (rdD 0 ((rdD z72 a0.f5.f2 v310).f0) (w64 ((rdD z74 a0.f6 v310).f1 + 1)))⟩ : S92)]) (w64 (v310 + 1)) h) (by kernel_rfl)
                · replace h := (if_neg c969).symm.trans h
                  exact byHead MX Tryz.func16 1000 [.b true, .dec 43 true, .dec 48 true, .call C968, .b false, .fin] (o1 (decide_eq_true c961) (o1 c962 (o1 c961 (o1 c962 (o1 c963 (o1 (decide_eq_true c964) (o1 (bnt (eqf c965)) (o1 c966 (o1 c967 (oa (sc_ C968) (o1 (decide_eq_false c969) on))))))))))) (ih v309 (w64 (v310 + 1)) h) (by kernel_rfl)
            · replace h := (if_neg c964).symm.trans h
              exact byHead MX Tryz.func16 1000 [.b true, .dec 43 false, .b false, .fin] (o1 (decide_eq_true c961) (o1 c962 (o1 c961 (o1 c962 (o1 c963 (o1 (decide_eq_false c964) (o1 (rfl : false = false) on))))))) (ih v309 (w64 (v310 + 1)) h) (by kernel_rfl)
          · replace h := (if_neg c961).symm.trans h
            cases h
            exact byRet MX Tryz.func16 1000 [.b false, .fin, .fin] (o1 (decide_eq_false c961) on) (by kernel_rfl)
      exact byHead MX Tryz.func16 1000 [rowe 8 e92 z92 ([] : List S92), .call C941, .dec 12 false, .b false, .call C944, .fin] (o1 (GE.lit 3 e92 z92 ([] : List S92) (by intro x; rfl)) (oa (sc_ C941) (o1 (bnf c942) (o1 (bnf c943) (oa (sc_ C944) on))))) (H0 k ([] : List S92) 0 h) (by kernel_rfl)
    · replace h := (if_neg c943).symm.trans h
      cases h
      exact byRet MX Tryz.func16 1000 [rowe 8 e92 z92 ([] : List S92), .call C941, .dec 12 false, .b true, .fin] (o1 (GE.lit 3 e92 z92 ([] : List S92) (by intro x; rfl)) (oa (sc_ C941) (o1 (bnf c942) (o1 (bnt (eqf c943)) on)))) (by kernel_rfl)
  · replace h := (if_neg c942).symm.trans h
    cases h
    exact byRet MX Tryz.func16 1000 [rowe 8 e92 z92 ([] : List S92), .call C941, .dec 12 true, .b true, .fin] (o1 (GE.lit 3 e92 z92 ([] : List S92) (by intro x; rfl)) (oa (sc_ C941) (o1 (bnt (eqf c942)) (o1 (rfl : true = true) on)))) (by kernel_rfl)

/-! ### impl_WindowNew: function 158 -/
def impl_WindowNew.f (a0 : Int) (a1 : Int) : Option (S42 × Bool) := if a0 < 1 then (some ((⟨0, 0, ([] : List Int)⟩ : S42), false)) else (if 8 < a0 then (some ((⟨0, 0, ([] : List Int)⟩ : S42), false)) else (if a1 < 1 then (some ((⟨0, 0, ([] : List Int)⟩ : S42), false)) else (if 100 < a1 then (some ((⟨0, 0, ([] : List Int)⟩ : S42), false)) else (if 0 ≤ (w64 (a0 * 6)) then (if (w64 (a0 * 6)).toNat * 8 ≤ 140737488355328 then (some ((⟨a0, a1, (List.replicate (w64 (a0 * 6)).toNat 0)⟩ : S42), true)) else none) else none))))
theorem impl_WindowNew.go : Callable Tryz.prog 158 := ⟨_, Tryz.func158, by kernel_rfl, rfl⟩
theorem impl_WindowNew.ok (a0 : Int) (a1 : Int) (r : S42 × Bool) (h : impl_WindowNew.f a0 a1 = some r) : VCalls Tryz.prog 158 [.c (.sc (.int .i64 a0)), .c (.sc (.int .i64 a1))] [.agg (r42 r.1), .c (.p (.sc (.bool r.2)))] := by
  unfold impl_WindowNew.f at h
  refine VCalls.of (fn := Tryz.f158) (N := 27) Tryz.func158 rfl rfl (fun w0 => ?_)
  by_cases c975 : a0 < 1
  · replace h := (if_pos c975).symm.trans h
    cases h
    exact byRet MX Tryz.func158 1000 [.dec 8 true, .b true, .fin, .nilB 256 2 448258 3 1, orow 448258 (eI .i64) 0 ([] : List Int)] (o1 (decide_eq_true c975) (o1 (rfl : true = true) (o1 (GE.nil (eI .i64) 0) on))) (by kernel_rfl)
  · replace h := (if_neg c975).symm.trans h
    by_cases c976 : 8 < a0
    · replace h := (if_pos c976).symm.trans h
      cases h
      exact byRet MX Tryz.func158 1000 [.dec 8 false, .dec 12 true, .b true, .fin, .nilB 256 2 448258 3 1, orow 448258 (eI .i64) 0 ([] : List Int)] (o1 (decide_eq_false c975) (o1 (decide_eq_true c976) (o1 (rfl : true = true) (o1 (GE.nil (eI .i64) 0) on)))) (by kernel_rfl)
    · replace h := (if_neg c976).symm.trans h
      by_cases c977 : a1 < 1
      · replace h := (if_pos c977).symm.trans h
        cases h
        exact byRet MX Tryz.func158 1000 [.dec 8 false, .dec 12 false, .dec 16 true, .b true, .fin, .nilB 256 2 448258 3 1, orow 448258 (eI .i64) 0 ([] : List Int)] (o1 (decide_eq_false c975) (o1 (decide_eq_false c976) (o1 (decide_eq_true c977) (o1 (rfl : true = true) (o1 (GE.nil (eI .i64) 0) on))))) (by kernel_rfl)
      · replace h := (if_neg c977).symm.trans h
        by_cases c978 : 100 < a1
        · replace h := (if_pos c978).symm.trans h
          cases h
          exact byRet MX Tryz.func158 1000 [.dec 8 false, .dec 12 false, .dec 16 false, .b true, .fin, .nilB 256 2 448258 3 1, orow 448258 (eI .i64) 0 ([] : List Int)] (o1 (decide_eq_false c975) (o1 (decide_eq_false c976) (o1 (decide_eq_false c977) (o1 (decide_eq_true c978) (o1 (GE.nil (eI .i64) 0) on))))) (by kernel_rfl)
        · replace h := (if_neg c978).symm.trans h
          obtain ⟨c979, h⟩ := ifN h
          obtain ⟨c980, h⟩ := ifN h
          cases h
          exact byRet MX Tryz.func158 1000 [.dec 8 false, .dec 12 false, .dec 16 false, .b false, rowe 25 (eI .i64) 0 (List.replicate (w64 (a0 * 6)).toNat 0), .fin] (o1 (decide_eq_false c975) (o1 (decide_eq_false c976) (o1 (decide_eq_false c977) (o1 (decide_eq_false c978) (o1 (rfl : (w64 (a0 * 6)) = (w64 (a0 * 6))) (o1 c979 (o1 (mxl (b := 8) (by decide) c980) (o1 c980 (o1 (GE.rep (e := (eI .i64)) (d := 0) (w64 (a0 * 6)).toNat (CE.refl _)) on))))))))) (by kernel_rfl)

/-! ### impl_GridOk: function 134 -/
def impl_GridOk.h0T (v315 : Int) (a0 : S38) : List (Nat × AV) := [(1, .ptr 64 0), (3, .t (.c (.p true (.sc (.int .i64 v315)))))]
def impl_GridOk.h0H (v315 : Int) (a0 : S38) : List (Nat × Content) := [(64, .box 38 [.p false (.sc (.int .i64 a0.f0)), .p false (.sc (.int .i64 a0.f1)), .p false (.sc (.string a0.f2))])]
def impl_GridOk.l0 : Nat → S38 → Int → Option Bool
  | 0, _, _ => none
  | kq + 1, a0, v315 => if v315 < (a0.f2.size : Int) then (if 0 ≤ v315 then (if (bt a0.f2 v315) = 46 then (impl_GridOk.l0 kq a0 (w64 (v315 + 1))) else (if (bt a0.f2 v315) = 35 then (impl_GridOk.l0 kq a0 (w64 (v315 + 1))) else (if (bt a0.f2 v315) < 97 then (if (bt a0.f2 v315) < 65 then (some false) else (if 70 < (bt a0.f2 v315) then (some false) else (impl_GridOk.l0 kq a0 (w64 (v315 + 1))))) else (if 102 < (bt a0.f2 v315) then (if (bt a0.f2 v315) < 65 then (some false) else (if 70 < (bt a0.f2 v315) then (some false) else (impl_GridOk.l0 kq a0 (w64 (v315 + 1))))) else (impl_GridOk.l0 kq a0 (w64 (v315 + 1))))))) else none) else (some true)
def impl_GridOk.f (k : Nat) (a0 : S38) : Option Bool := if a0.f0 < 1 then (some false) else (if 8 < a0.f0 then (some false) else (if a0.f1 < 1 then (some false) else (if 8 < a0.f1 then (some false) else (if (a0.f2.size : Int) = (w64 (a0.f0 * a0.f1)) then (impl_GridOk.l0 k a0 0) else (some false)))))
theorem impl_GridOk.go : Callable Tryz.prog 134 := ⟨_, Tryz.func134, by kernel_rfl, rfl⟩
theorem impl_GridOk.ok (k : Nat) (a0 : S38) (r : Bool) (h : impl_GridOk.f k a0 = some r) : VCalls Tryz.prog 134 [.agg (e38 a0)] [.c (.p (.sc (.bool r)))] := by
  unfold impl_GridOk.f at h
  refine VCalls.of (fn := Tryz.f134) (N := 67) Tryz.func134 rfl rfl (fun w0 => ?_)
  by_cases c982 : a0.f0 < 1
  · replace h := (if_pos c982).symm.trans h
    cases h
    exact byRet MX Tryz.func134 1000 [.dec 8 true, .b true, .fin] (o1 (decide_eq_true c982) (o1 (rfl : true = true) on)) (by kernel_rfl)
  · replace h := (if_neg c982).symm.trans h
    by_cases c983 : 8 < a0.f0
    · replace h := (if_pos c983).symm.trans h
      cases h
      exact byRet MX Tryz.func134 1000 [.dec 8 false, .dec 13 true, .b true, .fin] (o1 (decide_eq_false c982) (o1 (decide_eq_true c983) (o1 (rfl : true = true) on))) (by kernel_rfl)
    · replace h := (if_neg c983).symm.trans h
      by_cases c984 : a0.f1 < 1
      · replace h := (if_pos c984).symm.trans h
        cases h
        exact byRet MX Tryz.func134 1000 [.dec 8 false, .dec 13 false, .dec 18 true, .b true, .fin] (o1 (decide_eq_false c982) (o1 (decide_eq_false c983) (o1 (decide_eq_true c984) (o1 (rfl : true = true) on)))) (by kernel_rfl)
      · replace h := (if_neg c984).symm.trans h
        by_cases c985 : 8 < a0.f1
        · replace h := (if_pos c985).symm.trans h
          cases h
          exact byRet MX Tryz.func134 1000 [.dec 8 false, .dec 13 false, .dec 18 false, .dec 23 true, .b true, .fin] (o1 (decide_eq_false c982) (o1 (decide_eq_false c983) (o1 (decide_eq_false c984) (o1 (decide_eq_true c985) (o1 (rfl : true = true) on))))) (by kernel_rfl)
        · replace h := (if_neg c985).symm.trans h
          by_cases c986 : (a0.f2.size : Int) = (w64 (a0.f0 * a0.f1))
          · replace h := (if_pos c986).symm.trans h
            have H0 : ∀ (kq : Nat) (v315 : Int), impl_GridOk.l0 kq a0 v315 = some r → AG Tryz.prog 134 67 [.c (.p (.sc (.bool r)))] w0 (headStk (codeOf Tryz.f134) 0) (mkFS (impl_GridOk.h0T v315 a0) (impl_GridOk.h0H v315 a0)) := by
              intro kq
              induction kq with
              | zero => intro v315 h; cases h
              | succ kq ih =>
                intro v315 h
                rw [impl_GridOk.l0] at h
                by_cases c989 : v315 < (a0.f2.size : Int)
                · replace h := (if_pos c989).symm.trans h
                  obtain ⟨c990, h⟩ := ifN h
                  by_cases c991 : (bt a0.f2 v315) = 46
                  · replace h := (if_pos c991).symm.trans h
                    exact byHead MX Tryz.func134 1000 [.b true, .dec 47 false, .b false, .fin] (o1 (decide_eq_true c989) (o1 c990 (o1 c989 (o1 (bnf (decide_eq_true c991)) (o1 (rfl : false = false) on))))) (ih (w64 (v315 + 1)) h) (by kernel_rfl)
                  · replace h := (if_neg c991).symm.trans h
                    by_cases c992 : (bt a0.f2 v315) = 35
                    · replace h := (if_pos c992).symm.trans h
                      exact byHead MX Tryz.func134 1000 [.b true, .dec 47 true, .dec 51 false, .b false, .fin] (o1 (decide_eq_true c989) (o1 c990 (o1 c989 (o1 (bnt (decide_eq_false c991)) (o1 (bnf (decide_eq_true c992)) (o1 (rfl : false = false) on)))))) (ih (w64 (v315 + 1)) h) (by kernel_rfl)
                    · replace h := (if_neg c992).symm.trans h
                      by_cases c993 : (bt a0.f2 v315) < 97
                      · replace h := (if_pos c993).symm.trans h
                        by_cases c994 : (bt a0.f2 v315) < 65
                        · replace h := (if_pos c994).symm.trans h
                          cases h
                          exact byRet MX Tryz.func134 1000 [.b true, .dec 47 true, .dec 51 true, .dec 54 true, .dec 62 true, .b true, .fin] (o1 (decide_eq_true c989) (o1 c990 (o1 c989 (o1 (bnt (decide_eq_false c991)) (o1 (bnt (decide_eq_false c992)) (o1 (decide_eq_true c993) (o1 (decide_eq_true c994) (o1 (rfl : true = true) on)))))))) (by kernel_rfl)
                        · replace h := (if_neg c994).symm.trans h
                          by_cases c995 : 70 < (bt a0.f2 v315)
                          · replace h := (if_pos c995).symm.trans h
                            cases h
                            exact byRet MX Tryz.func134 1000 [.b true, .dec 47 true, .dec 51 true, .dec 54 true, .dec 62 false, .b true, .fin] (o1 (decide_eq_true c989) (o1 c990 (o1 c989 (o1 (bnt (decide_eq_false c991)) (o1 (bnt (decide_eq_false c992)) (o1 (decide_eq_true c993) (o1 (decide_eq_false c994) (o1 (decide_eq_true c995) on)))))))) (by kernel_rfl)
                          · replace h := (if_neg c995).symm.trans h
                            exact byHead MX Tryz.func134 1000 [.b true, .dec 47 true, .dec 51 true, .dec 54 true, .dec 62 false, .b false, .fin] (o1 (decide_eq_true c989) (o1 c990 (o1 c989 (o1 (bnt (decide_eq_false c991)) (o1 (bnt (decide_eq_false c992)) (o1 (decide_eq_true c993) (o1 (decide_eq_false c994) (o1 (decide_eq_false c995) on)))))))) (ih (w64 (v315 + 1)) h) (by kernel_rfl)
                      · replace h := (if_neg c993).symm.trans h
                        by_cases c996 : 102 < (bt a0.f2 v315)
                        · replace h := (if_pos c996).symm.trans h
                          by_cases c997 : (bt a0.f2 v315) < 65
                          · replace h := (if_pos c997).symm.trans h
                            cases h
                            exact byRet MX Tryz.func134 1000 [.b true, .dec 47 true, .dec 51 true, .dec 54 false, .dec 59 true, .dec 62 true, .b true, .fin] (o1 (decide_eq_true c989) (o1 c990 (o1 c989 (o1 (bnt (decide_eq_false c991)) (o1 (bnt (decide_eq_false c992)) (o1 (decide_eq_false c993) (o1 (decide_eq_true c996) (o1 (decide_eq_true c997) (o1 (rfl : true = true) on))))))))) (by kernel_rfl)
                          · replace h := (if_neg c997).symm.trans h
                            by_cases c998 : 70 < (bt a0.f2 v315)
                            · replace h := (if_pos c998).symm.trans h
                              cases h
                              exact byRet MX Tryz.func134 1000 [.b true, .dec 47 true, .dec 51 true, .dec 54 false, .dec 59 true, .dec 62 false, .b true, .fin] (o1 (decide_eq_true c989) (o1 c990 (o1 c989 (o1 (bnt (decide_eq_false c991)) (o1 (bnt (decide_eq_false c992)) (o1 (decide_eq_false c993) (o1 (decide_eq_true c996) (o1 (decide_eq_false c997) (o1 (decide_eq_true c998) on))))))))) (by kernel_rfl)
                            · replace h := (if_neg c998).symm.trans h
                              exact byHead MX Tryz.func134 1000 [.b true, .dec 47 true, .dec 51 true, .dec 54 false, .dec 59 true, .dec 62 false, .b false, .fin] (o1 (decide_eq_true c989) (o1 c990 (o1 c989 (o1 (bnt (decide_eq_false c991)) (o1 (bnt (decide_eq_false c992)) (o1 (decide_eq_false c993) (o1 (decide_eq_true c996) (o1 (decide_eq_false c997) (o1 (decide_eq_false c998) on))))))))) (ih (w64 (v315 + 1)) h) (by kernel_rfl)
                        · replace h := (if_neg c996).symm.trans h
                          exact byHead MX Tryz.func134 1000 [.b true, .dec 47 true, .dec 51 true, .dec 54 false, .dec 59 false, .b false, .fin] (o1 (decide_eq_true c989) (o1 c990 (o1 c989 (o1 (bnt (decide_eq_false c991)) (o1 (bnt (decide_eq_false c992)) (o1 (decide_eq_false c993) (o1 (decide_eq_false c996) (o1 (rfl : false = false) on)))))))) (ih (w64 (v315 + 1)) h) (by kernel_rfl)
                · replace h := (if_neg c989).symm.trans h
                  cases h
                  exact byRet MX Tryz.func134 1000 [.b false, .fin, .fin] (o1 (decide_eq_false c989) on) (by kernel_rfl)
            exact byHead MX Tryz.func134 1000 [.dec 8 false, .dec 13 false, .dec 18 false, .dec 23 false, .b false, .fin] (o1 (decide_eq_false c982) (o1 (decide_eq_false c983) (o1 (decide_eq_false c984) (o1 (decide_eq_false c985) (o1 (bnf (decide_eq_true c986)) on))))) (H0 k 0 h) (by kernel_rfl)
          · replace h := (if_neg c986).symm.trans h
            cases h
            exact byRet MX Tryz.func134 1000 [.dec 8 false, .dec 13 false, .dec 18 false, .dec 23 false, .b true, .fin] (o1 (decide_eq_false c982) (o1 (decide_eq_false c983) (o1 (decide_eq_false c984) (o1 (decide_eq_false c985) (o1 (bnt (decide_eq_false c986)) on))))) (by kernel_rfl)

/-! ### impl_SetupOk: function 90 -/
def impl_SetupOk.f (k : Nat) (a0 : S40) : Option Bool := (impl_WindowNew.f a0.f2 a0.f3).bind fun t314 => (impl_GridOk.f k a0.f0).bind fun t316 => if t316 = true then (if 1 ≤ a0.f1 then (if a0.f1 ≤ 20 then (if t314.2 = true then (if 0 ≤ a0.f4 then (some (decide (a0.f4 ≤ 20))) else (some false)) else (some false)) else (some false)) else (some false)) else (some false)
theorem impl_SetupOk.go : Callable Tryz.prog 90 := ⟨_, Tryz.func90, by kernel_rfl, rfl⟩
theorem impl_SetupOk.ok (k : Nat) (a0 : S40) (r : Bool) (h : impl_SetupOk.f k a0 = some r) : VCalls Tryz.prog 90 [.agg (e40 a0)] [.c (.p (.sc (.bool r)))] := by
  unfold impl_SetupOk.f at h
  refine VCalls.of (fn := Tryz.f90) (N := 39) Tryz.func90 rfl rfl (fun w0 => ?_)
  obtain ⟨t314, g981, h⟩ := bindN h
  let C981 := mkCon (impl_WindowNew.ok a0.f2 a0.f3 t314 g981) impl_WindowNew.go
  obtain ⟨t316, g999, h⟩ := bindN h
  let C999 := mkCon (impl_GridOk.ok k a0.f0 t316 g999) impl_GridOk.go
  by_cases c1000 : t316 = true
  · replace h := (if_pos c1000).symm.trans h
    by_cases c1001 : 1 ≤ a0.f1
    · replace h := (if_pos c1001).symm.trans h
      by_cases c1002 : a0.f1 ≤ 20
      · replace h := (if_pos c1002).symm.trans h
        by_cases c1003 : t314.2 = true
        · replace h := (if_pos c1003).symm.trans h
          by_cases c1004 : 0 ≤ a0.f4
          · replace h := (if_pos c1004).symm.trans h
            cases h
            exact byRet MX Tryz.func90 1000 [.call C981, .call C999, .dec 16 true, .dec 21 true, .dec 26 true, .dec 29 true, .dec 34 true, .fin] (oa (sc_ C981) (oa (sc_ C999) (o1 c1000 (o1 (decide_eq_true c1001) (o1 (decide_eq_true c1002) (o1 c1003 (o1 (decide_eq_true c1004) on))))))) (by kernel_rfl)
          · replace h := (if_neg c1004).symm.trans h
            cases h
            exact byRet MX Tryz.func90 1000 [.call C981, .call C999, .dec 16 true, .dec 21 true, .dec 26 true, .dec 29 true, .dec 34 false, .fin] (oa (sc_ C981) (oa (sc_ C999) (o1 c1000 (o1 (decide_eq_true c1001) (o1 (decide_eq_true c1002) (o1 c1003 (o1 (decide_eq_false c1004) on))))))) (by kernel_rfl)
        · replace h := (if_neg c1003).symm.trans h
          cases h
          exact byRet MX Tryz.func90 1000 [.call C981, .call C999, .dec 16 true, .dec 21 true, .dec 26 true, .dec 29 false, .fin] (oa (sc_ C981) (oa (sc_ C999) (o1 c1000 (o1 (decide_eq_true c1001) (o1 (decide_eq_true c1002) (o1 (eqf c1003) on)))))) (by kernel_rfl)
      · replace h := (if_neg c1002).symm.trans h
        cases h
        exact byRet MX Tryz.func90 1000 [.call C981, .call C999, .dec 16 true, .dec 21 true, .dec 26 false, .fin] (oa (sc_ C981) (oa (sc_ C999) (o1 c1000 (o1 (decide_eq_true c1001) (o1 (decide_eq_false c1002) on))))) (by kernel_rfl)
    · replace h := (if_neg c1001).symm.trans h
      cases h
      exact byRet MX Tryz.func90 1000 [.call C981, .call C999, .dec 16 true, .dec 21 false, .fin] (oa (sc_ C981) (oa (sc_ C999) (o1 c1000 (o1 (decide_eq_false c1001) on)))) (by kernel_rfl)
  · replace h := (if_neg c1000).symm.trans h
    cases h
    exact byRet MX Tryz.func90 1000 [.call C981, .call C999, .dec 16 false, .fin] (oa (sc_ C981) (oa (sc_ C999) (o1 (eqf c1000) on))) (by kernel_rfl)

/-! ### impl_isFree: function 159 -/
def impl_isFree.f (a0 : S38) (a1 : Int) : Option Bool := if 0 ≤ a1 then (if a1 < (a0.f2.size : Int) then (some (!decide ((bt a0.f2 a1) = 35))) else (some false)) else (some false)
theorem impl_isFree.go : Callable Tryz.prog 159 := ⟨_, Tryz.func159, by kernel_rfl, rfl⟩
theorem impl_isFree.ok (a0 : S38) (a1 : Int) (r : Bool) (h : impl_isFree.f a0 a1 = some r) : VCalls Tryz.prog 159 [.agg (e38 a0), .c (.sc (.int .i64 a1))] [.c (.p (.sc (.bool r)))] := by
  unfold impl_isFree.f at h
  refine VCalls.of (fn := Tryz.f159) (N := 21) Tryz.func159 rfl rfl (fun w0 => ?_)
  by_cases c1017 : 0 ≤ a1
  · replace h := (if_pos c1017).symm.trans h
    by_cases c1018 : a1 < (a0.f2.size : Int)
    · replace h := (if_pos c1018).symm.trans h
      cases h
      exact byRet MX Tryz.func159 1000 [.dec 7 true, .dec 14 true, .fin] (o1 (decide_eq_true c1017) (o1 (decide_eq_true c1018) (o1 c1017 (o1 c1018 on)))) (by kernel_rfl)
    · replace h := (if_neg c1018).symm.trans h
      cases h
      exact byRet MX Tryz.func159 1000 [.dec 7 true, .dec 14 false, .fin] (o1 (decide_eq_true c1017) (o1 (decide_eq_false c1018) on)) (by kernel_rfl)
  · replace h := (if_neg c1017).symm.trans h
    cases h
    exact byRet MX Tryz.func159 1000 [.dec 7 false, .fin] (o1 (decide_eq_false c1017) on) (by kernel_rfl)
end Go.Proofs.YtoaknaceaghclaaGreat.V
