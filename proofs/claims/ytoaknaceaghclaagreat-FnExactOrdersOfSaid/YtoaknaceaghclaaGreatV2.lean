/- What each Go function computes, and that the machine does so: printed by a program of this session (avgen.py). -/
import Derived.Test.YtoaknaceaghclaaGreatV1
namespace Go.Proofs.YtoaknaceaghclaaGreat.V
open Go Go.Av Go.Proofs
set_option linter.unusedVariables false
set_option maxRecDepth 100000
/-! ### spec_l21Jobs: function 148 -/
def spec_l21Jobs.h0T (v120 : Int) (a0 : S48) : List (Nat × AV) := [(1, .ptr 64 0), (3, .t (.c (.p true (.sc (.int .i64 v120)))))]
def spec_l21Jobs.h0H (v120 : Int) (a0 : S48) : List (Nat × Content) := [(64, .box 48 [.p false (.sc (.int .i64 a0.f0.f0.f0)), .p false (.sc (.int .i64 a0.f0.f0.f1)), .p false (.sc (.string a0.f0.f0.f2)), .p false (.sc (.int .i64 a0.f0.f1)), .p false (.sc (.int .i64 a0.f0.f2)), .p false (.sc (.int .i64 a0.f0.f3)), .p false (.sc (.int .i64 a0.f0.f4)), .p false (R 4 e69 z69 a0.f1), .p false (.sc (.int .i64 a0.f2.f0)), .p false (.sc (.int .i64 a0.f2.f1)), .p false (R 1 (eI .i64) 0 a0.f2.f2), .p false (.sc (.int .i64 a0.f3)), .p false (.sc (.bool a0.f4)), .p false (.sc (.int .i64 a0.f5.f0)), .p false (.sc (.int .i64 a0.f5.f1)), .p false (R 1 e72 z72 a0.f5.f2), .p false (R 3 e74 z74 a0.f6), .p false (R 1 (eI .i64) 0 a0.f7)])]
def spec_l21Jobs.l0 : Nat → S48 → Int → Option Bool
  | 0, _, _ => none
  | kq + 1, a0, v120 => if v120 < (a0.f6.length : Int) then ((spec_l21Job.f kq a0 v120).bind fun t121 => if t121 = true then (spec_l21Jobs.l0 kq a0 (w64 (v120 + 1))) else (some false)) else (some true)
def spec_l21Jobs.f (k : Nat) (a0 : S48) : Option Bool := if 20 < a0.f5.f0 then (some false) else ((spec_l01In.f (a0.f6.length : Int) 1 10).bind fun t110 => if t110 = true then (if (a0.f6.length : Int) = (a0.f5.f2.length : Int) then (spec_l21Jobs.l0 k a0 0) else (some false)) else (some false))
theorem spec_l21Jobs.go : Callable Tryz.prog 148 := ⟨_, Tryz.func148, by kernel_rfl, rfl⟩
theorem spec_l21Jobs.ok (k : Nat) (a0 : S48) (r : Bool) (h : spec_l21Jobs.f k a0 = some r) : VCalls Tryz.prog 148 [.agg (e48 a0)] [.c (.p (.sc (.bool r)))] := by
  unfold spec_l21Jobs.f at h
  refine VCalls.of (fn := Tryz.f148) (N := 36) Tryz.func148 rfl rfl (fun w0 => ?_)
  by_cases c264 : 20 < a0.f5.f0
  · replace h := (if_pos c264).symm.trans h
    cases h
    exact byRet MX Tryz.func148 1000 [.dec 8 true, .b true, .fin] (o1 (decide_eq_true c264) (o1 (rfl : true = true) on)) (by kernel_rfl)
  · replace h := (if_neg c264).symm.trans h
    obtain ⟨t110, g265, h⟩ := bindN h
    let C265 := mkCon (spec_l01In.ok (a0.f6.length : Int) 1 10 t110 g265) spec_l01In.go
    by_cases c266 : t110 = true
    · replace h := (if_pos c266).symm.trans h
      by_cases c267 : (a0.f6.length : Int) = (a0.f5.f2.length : Int)
      · replace h := (if_pos c267).symm.trans h
        have H0 : ∀ (kq : Nat) (v120 : Int), spec_l21Jobs.l0 kq a0 v120 = some r → AG Tryz.prog 148 36 [.c (.p (.sc (.bool r)))] w0 (headStk (codeOf Tryz.f148) 0) (mkFS (spec_l21Jobs.h0T v120 a0) (spec_l21Jobs.h0H v120 a0)) := by
          intro kq
          induction kq with
          | zero => intro v120 h; cases h
          | succ kq ih =>
            intro v120 h
            rw [spec_l21Jobs.l0] at h
            by_cases c312 : v120 < (a0.f6.length : Int)
            · replace h := (if_pos c312).symm.trans h
              obtain ⟨t121, g313, h⟩ := bindN h
              let C313 := mkCon (spec_l21Job.ok kq a0 v120 t121 g313) spec_l21Job.go
              by_cases c314 : t121 = true
              · replace h := (if_pos c314).symm.trans h
                exact byHead MX Tryz.func148 1000 [.b true, .call C313, .b false, .fin] (o1 (decide_eq_true c312) (oa (sc_ C313) (o1 (bnf c314) on))) (ih (w64 (v120 + 1)) h) (by kernel_rfl)
              · replace h := (if_neg c314).symm.trans h
                cases h
                exact byRet MX Tryz.func148 1000 [.b true, .call C313, .b true, .fin] (o1 (decide_eq_true c312) (oa (sc_ C313) (o1 (bnt (eqf c314)) on))) (by kernel_rfl)
            · replace h := (if_neg c312).symm.trans h
              cases h
              exact byRet MX Tryz.func148 1000 [.b false, .fin, .fin] (o1 (decide_eq_false c312) on) (by kernel_rfl)
        exact byHead MX Tryz.func148 1000 [.dec 8 false, .call C265, .dec 15 false, .b false, .fin] (o1 (decide_eq_false c264) (oa (sc_ C265) (o1 (bnf c266) (o1 (bnf (decide_eq_true c267)) on)))) (H0 k 0 h) (by kernel_rfl)
      · replace h := (if_neg c267).symm.trans h
        cases h
        exact byRet MX Tryz.func148 1000 [.dec 8 false, .call C265, .dec 15 false, .b true, .fin] (o1 (decide_eq_false c264) (oa (sc_ C265) (o1 (bnf c266) (o1 (bnt (decide_eq_false c267)) on)))) (by kernel_rfl)
    · replace h := (if_neg c266).symm.trans h
      cases h
      exact byRet MX Tryz.func148 1000 [.dec 8 false, .call C265, .dec 15 true, .b true, .fin] (o1 (decide_eq_false c264) (oa (sc_ C265) (o1 (bnt (eqf c266)) (o1 (rfl : true = true) on)))) (by kernel_rfl)

/-! ### spec_JobsOk: function 80 -/
def spec_JobsOk.f (k : Nat) (a0 : S48) : Option Bool := if a0.f4 = true then ((spec_l21Jobs.f k a0).bind fun t122 => if t122 = true then ((spec_LayerOf.f k a0).bind fun t123 => some (decide (t123 < a0.f5.f0))) else (some false)) else (if a0.f5.f0 = 0 then (if a0.f5.f1 = 0 then (if (a0.f5.f2.length : Int) = 0 then (some (decide ((a0.f6.length : Int) = 0))) else (some false)) else (some false)) else (some false))
theorem spec_JobsOk.go : Callable Tryz.prog 80 := ⟨_, Tryz.func80, by kernel_rfl, rfl⟩
theorem spec_JobsOk.ok (k : Nat) (a0 : S48) (r : Bool) (h : spec_JobsOk.f k a0 = some r) : VCalls Tryz.prog 80 [.agg (e48 a0)] [.c (.p (.sc (.bool r)))] := by
  unfold spec_JobsOk.f at h
  refine VCalls.of (fn := Tryz.f80) (N := 39) Tryz.func80 rfl rfl (fun w0 => ?_)
  by_cases c263 : a0.f4 = true
  · replace h := (if_pos c263).symm.trans h
    obtain ⟨t122, g315, h⟩ := bindN h
    let C315 := mkCon (spec_l21Jobs.ok k a0 t122 g315) spec_l21Jobs.go
    by_cases c316 : t122 = true
    · replace h := (if_pos c316).symm.trans h
      obtain ⟨t123, g317, h⟩ := bindN h
      let C317 := mkCon (spec_LayerOf.ok k a0 t123 g317) spec_LayerOf.go
      cases h
      exact byRet MX Tryz.func80 1000 [.b false, .call C315, .dec 31 true, .call C317, .fin] (o1 (bnf c263) (oa (sc_ C315) (o1 c316 (oa (sc_ C317) on)))) (by kernel_rfl)
    · replace h := (if_neg c316).symm.trans h
      cases h
      exact byRet MX Tryz.func80 1000 [.b false, .call C315, .dec 31 false, .fin] (o1 (bnf c263) (oa (sc_ C315) (o1 (eqf c316) on))) (by kernel_rfl)
  · replace h := (if_neg c263).symm.trans h
    by_cases c318 : a0.f5.f0 = 0
    · replace h := (if_pos c318).symm.trans h
      by_cases c319 : a0.f5.f1 = 0
      · replace h := (if_pos c319).symm.trans h
        by_cases c320 : (a0.f5.f2.length : Int) = 0
        · replace h := (if_pos c320).symm.trans h
          cases h
          exact byRet MX Tryz.func80 1000 [.b true, .dec 10 true, .dec 16 true, .dec 23 true, .fin] (o1 (bnt (eqf c263)) (o1 (decide_eq_true c318) (o1 (decide_eq_true c319) (o1 (decide_eq_true c320) on)))) (by kernel_rfl)
        · replace h := (if_neg c320).symm.trans h
          cases h
          exact byRet MX Tryz.func80 1000 [.b true, .dec 10 true, .dec 16 true, .dec 23 false, .fin] (o1 (bnt (eqf c263)) (o1 (decide_eq_true c318) (o1 (decide_eq_true c319) (o1 (decide_eq_false c320) on)))) (by kernel_rfl)
      · replace h := (if_neg c319).symm.trans h
        cases h
        exact byRet MX Tryz.func80 1000 [.b true, .dec 10 true, .dec 16 false, .fin] (o1 (bnt (eqf c263)) (o1 (decide_eq_true c318) (o1 (decide_eq_false c319) on))) (by kernel_rfl)
    · replace h := (if_neg c318).symm.trans h
      cases h
      exact byRet MX Tryz.func80 1000 [.b true, .dec 10 false, .fin] (o1 (bnt (eqf c263)) (o1 (decide_eq_false c318) on)) (by kernel_rfl)

/-! ### spec_l10Cells: function 81 -/
def spec_l10Cells.h0T (a1 : List Int) (v126 : Int) (a0 : S38) : List (Nat × AV) := [(1, .t (.c (.p false (R 1 (eI .i64) 0 a1)))), (2, .ptr 128 0), (5, .t (.c (.p true (.sc (.int .i64 v126)))))]
def spec_l10Cells.h0H (a1 : List Int) (v126 : Int) (a0 : S38) : List (Nat × Content) := [(128, .box 38 [.p false (.sc (.int .i64 a0.f0)), .p false (.sc (.int .i64 a0.f1)), .p false (.sc (.string a0.f2))])]
def spec_l10Cells.l0 : Nat → List Int → S38 → Int → Option Bool
  | 0, _, _, _ => none
  | kq + 1, a1, a0, v126 => if v126 < (a1.length : Int) then (if 0 ≤ v126 then ((spec_FreeAt.f kq a0 (rdD 0 a1 v126)).bind fun t127 => if t127 = true then (if 0 < v126 then (if 0 ≤ (w64 (v126 - 1)) then (if (w64 (v126 - 1)) < (a1.length : Int) then (if (rdD 0 a1 v126) ≤ (rdD 0 a1 (w64 (v126 - 1))) then (some false) else (spec_l10Cells.l0 kq a1 a0 (w64 (v126 + 1)))) else none) else none) else (spec_l10Cells.l0 kq a1 a0 (w64 (v126 + 1)))) else (some false)) else none) else (some true)
def spec_l10Cells.f (k : Nat) (a0 : S38) (a1 : List Int) : Option Bool := spec_l10Cells.l0 k a1 a0 0
theorem spec_l10Cells.go : Callable Tryz.prog 81 := ⟨_, Tryz.func81, by kernel_rfl, rfl⟩
theorem spec_l10Cells.ok (k : Nat) (a0 : S38) (a1 : List Int) (r : Bool) (h : spec_l10Cells.f k a0 a1 = some r) : VCalls Tryz.prog 81 [.agg (e38 a0), .c (R 1 (eI .i64) 0 a1)] [.c (.p (.sc (.bool r)))] := by
  unfold spec_l10Cells.f at h
  refine VCalls.of (fn := Tryz.f81) (N := 35) Tryz.func81 rfl rfl (fun w0 => ?_)
  have H0 : ∀ (kq : Nat) (v126 : Int), spec_l10Cells.l0 kq a1 a0 v126 = some r → AG Tryz.prog 81 35 [.c (.p (.sc (.bool r)))] w0 (headStk (codeOf Tryz.f81) 0) (mkFS (spec_l10Cells.h0T a1 v126 a0) (spec_l10Cells.h0H a1 v126 a0)) := by
    intro kq
    induction kq with
    | zero => intro v126 h; cases h
    | succ kq ih =>
      intro v126 h
      rw [spec_l10Cells.l0] at h
      by_cases c330 : v126 < (a1.length : Int)
      · replace h := (if_pos c330).symm.trans h
        obtain ⟨c331, h⟩ := ifN h
        obtain ⟨t127, g332, h⟩ := bindN h
        let C332 := mkCon (spec_FreeAt.ok kq a0 (rdD 0 a1 v126) t127 g332) spec_FreeAt.go
        by_cases c333 : t127 = true
        · replace h := (if_pos c333).symm.trans h
          by_cases c334 : 0 < v126
          · replace h := (if_pos c334).symm.trans h
            obtain ⟨c335, h⟩ := ifN h
            obtain ⟨c336, h⟩ := ifN h
            by_cases c337 : (rdD 0 a1 v126) ≤ (rdD 0 a1 (w64 (v126 - 1)))
            · replace h := (if_pos c337).symm.trans h
              cases h
              exact byRet MX Tryz.func81 1000 [.b true, .call C332, .dec 19 false, .dec 22 true, .b true, .fin] (o1 (decide_eq_true c330) (o1 c331 (o1 c330 (oa (sc_ C332) (o1 (bnf c333) (o1 (decide_eq_true c334) (o1 c335 (o1 c336 (o1 c331 (o1 c330 (o1 (decide_eq_true c337) on))))))))))) (by kernel_rfl)
            · replace h := (if_neg c337).symm.trans h
              exact byHead MX Tryz.func81 1000 [.b true, .call C332, .dec 19 false, .dec 22 true, .b false, .fin] (o1 (decide_eq_true c330) (o1 c331 (o1 c330 (oa (sc_ C332) (o1 (bnf c333) (o1 (decide_eq_true c334) (o1 c335 (o1 c336 (o1 c331 (o1 c330 (o1 (decide_eq_false c337) on))))))))))) (ih (w64 (v126 + 1)) h) (by kernel_rfl)
          · replace h := (if_neg c334).symm.trans h
            exact byHead MX Tryz.func81 1000 [.b true, .call C332, .dec 19 false, .dec 22 false, .b false, .fin] (o1 (decide_eq_true c330) (o1 c331 (o1 c330 (oa (sc_ C332) (o1 (bnf c333) (o1 (decide_eq_false c334) (o1 (rfl : false = false) on))))))) (ih (w64 (v126 + 1)) h) (by kernel_rfl)
        · replace h := (if_neg c333).symm.trans h
          cases h
          exact byRet MX Tryz.func81 1000 [.b true, .call C332, .dec 19 true, .b true, .fin] (o1 (decide_eq_true c330) (o1 c331 (o1 c330 (oa (sc_ C332) (o1 (bnt (eqf c333)) (o1 (rfl : true = true) on)))))) (by kernel_rfl)
      · replace h := (if_neg c330).symm.trans h
        cases h
        exact byRet MX Tryz.func81 1000 [.b false, .fin, .fin] (o1 (decide_eq_false c330) on) (by kernel_rfl)
  exact byHead MX Tryz.func81 1000 [.fin] on (H0 k 0 h) (by kernel_rfl)

/-! ### spec_l11Sorted: function 132 -/
def spec_l11Sorted.h0T (v144 : Int) (v145 : Int) (t138 : List Int) (t139 : List Int) (v143 : List Int) : List (Nat × AV) := [(3, .t (.c (.h 1280))), (4, .t (.c (.h 1664))), (5, .t (.c (.h 1728))), (6, .t (.c (.p true (.sc (.int .i64 v144))))), (7, .t (.c (.p true (.sc (.int .i64 v145)))))]
def spec_l11Sorted.h0H (v144 : Int) (v145 : Int) (t138 : List Int) (t139 : List Int) (v143 : List Int) : List (Nat × Content) := [(1280, .row 3 1 t138.length (fun j => (eI .i64) (t138.getD j 0)) true), (1664, .row 3 1 t139.length (fun j => (eI .i64) (t139.getD j 0)) true), (1728, .row 3 1 v143.length (fun j => (eI .i64) (v143.getD j 0)) true)]
def spec_l11Sorted.l0 : Nat → List Int → List Int → List Int → Int → Int → Option (List Int)
  | 0, _, _, _, _, _ => none
  | kq + 1, t138, t139, v143, v144, v145 => if v144 < (t138.length : Int) then (if (t139.length : Int) ≤ v145 then (if 0 ≤ v144 then (if (v143.length : Int) = 0 then (if (v143.length + 1) * 8 ≤ 140737488355328 then (spec_l11Sorted.l0 kq t138 t139 (v143 ++ [(rdD 0 t138 v144)]) (w64 (v144 + 1)) v145) else none) else (if 0 ≤ (w64 ((v143.length : Int) - 1)) then (if (w64 ((v143.length : Int) - 1)) < (v143.length : Int) then (if (rdD 0 v143 (w64 ((v143.length : Int) - 1))) = (rdD 0 t138 v144) then (spec_l11Sorted.l0 kq t138 t139 v143 (w64 (v144 + 1)) v145) else (if (v143.length + 1) * 8 ≤ 140737488355328 then (spec_l11Sorted.l0 kq t138 t139 (v143 ++ [(rdD 0 t138 v144)]) (w64 (v144 + 1)) v145) else none)) else none) else none)) else none) else (if 0 ≤ v144 then (if 0 ≤ v145 then (if v145 < (t139.length : Int) then (if (rdD 0 t138 v144) ≤ (rdD 0 t139 v145) then (if (v143.length : Int) = 0 then (if (v143.length + 1) * 8 ≤ 140737488355328 then (spec_l11Sorted.l0 kq t138 t139 (v143 ++ [(rdD 0 t138 v144)]) (w64 (v144 + 1)) v145) else none) else (if 0 ≤ (w64 ((v143.length : Int) - 1)) then (if (w64 ((v143.length : Int) - 1)) < (v143.length : Int) then (if (rdD 0 v143 (w64 ((v143.length : Int) - 1))) = (rdD 0 t138 v144) then (spec_l11Sorted.l0 kq t138 t139 v143 (w64 (v144 + 1)) v145) else (if (v143.length + 1) * 8 ≤ 140737488355328 then (spec_l11Sorted.l0 kq t138 t139 (v143 ++ [(rdD 0 t138 v144)]) (w64 (v144 + 1)) v145) else none)) else none) else none)) else (if (v143.length : Int) = 0 then (if (v143.length + 1) * 8 ≤ 140737488355328 then (spec_l11Sorted.l0 kq t138 t139 (v143 ++ [(rdD 0 t139 v145)]) v144 (w64 (v145 + 1))) else none) else (if 0 ≤ (w64 ((v143.length : Int) - 1)) then (if (w64 ((v143.length : Int) - 1)) < (v143.length : Int) then (if (rdD 0 v143 (w64 ((v143.length : Int) - 1))) = (rdD 0 t139 v145) then (spec_l11Sorted.l0 kq t138 t139 v143 v144 (w64 (v145 + 1))) else (if (v143.length + 1) * 8 ≤ 140737488355328 then (spec_l11Sorted.l0 kq t138 t139 (v143 ++ [(rdD 0 t139 v145)]) v144 (w64 (v145 + 1))) else none)) else none) else none))) else none) else none) else none)) else (if v145 < (t139.length : Int) then (if (t139.length : Int) ≤ v145 then (if 0 ≤ v144 then (if v144 < (t138.length : Int) then (if (v143.length : Int) = 0 then (if (v143.length + 1) * 8 ≤ 140737488355328 then (spec_l11Sorted.l0 kq t138 t139 (v143 ++ [(rdD 0 t138 v144)]) (w64 (v144 + 1)) v145) else none) else (if 0 ≤ (w64 ((v143.length : Int) - 1)) then (if (w64 ((v143.length : Int) - 1)) < (v143.length : Int) then (if (rdD 0 v143 (w64 ((v143.length : Int) - 1))) = (rdD 0 t138 v144) then (spec_l11Sorted.l0 kq t138 t139 v143 (w64 (v144 + 1)) v145) else (if (v143.length + 1) * 8 ≤ 140737488355328 then (spec_l11Sorted.l0 kq t138 t139 (v143 ++ [(rdD 0 t138 v144)]) (w64 (v144 + 1)) v145) else none)) else none) else none)) else none) else none) else (if 0 ≤ v145 then (if (v143.length : Int) = 0 then (if (v143.length + 1) * 8 ≤ 140737488355328 then (spec_l11Sorted.l0 kq t138 t139 (v143 ++ [(rdD 0 t139 v145)]) v144 (w64 (v145 + 1))) else none) else (if 0 ≤ (w64 ((v143.length : Int) - 1)) then (if (w64 ((v143.length : Int) - 1)) < (v143.length : Int) then (if (rdD 0 v143 (w64 ((v143.length : Int) - 1))) = (rdD 0 t139 v145) then (spec_l11Sorted.l0 kq t138 t139 v143 v144 (w64 (v145 + 1))) else (if (v143.length + 1) * 8 ≤ 140737488355328 then (spec_l11Sorted.l0 kq t138 t139 (v143 ++ [(rdD 0 t139 v145)]) v144 (w64 (v145 + 1))) else none)) else none) else none)) else none)) else (some v143))
def spec_l11Sorted.f : Nat → (List Int) → Option (List Int)
  | 0, _ => none
  | k + 1, a0 => if (a0.length : Int) < 2 then (if (([] : List Int).length + a0.length) * 8 ≤ 140737488355328 then (some (([] : List Int) ++ a0)) else none) else (if 0 ≤ (w64 ((a0.length : Int).tdiv 2)) then (if (w64 ((a0.length : Int).tdiv 2)) ≤ (a0.length : Int) then ((spec_l11Sorted.f k ((a0.drop (0 : Int).toNat).take ((w64 ((a0.length : Int).tdiv 2)).toNat - (0 : Int).toNat))).bind fun t138 => (spec_l11Sorted.f k ((a0.drop (w64 ((a0.length : Int).tdiv 2)).toNat).take ((a0.length : Int).toNat - (w64 ((a0.length : Int).tdiv 2)).toNat))).bind fun t139 => spec_l11Sorted.l0 k t138 t139 ([] : List Int) 0 0) else none) else none)
theorem spec_l11Sorted.go : Callable Tryz.prog 132 := ⟨_, Tryz.func132, by kernel_rfl, rfl⟩
theorem spec_l11Sorted.ok (k : Nat) (a0 : List Int) (r : (List Int)) (h : spec_l11Sorted.f k a0 = some r) : VCalls Tryz.prog 132 [.c (R 1 (eI .i64) 0 a0)] [.c (.own 3 1 r.length (fun j => (eI .i64) (r.getD j 0)))] := by
  induction k generalizing r a0 with
  | zero => cases h
  | succ k ihk =>
    have ihf := fun a0 r h => ihk a0 r h
    rw [spec_l11Sorted.f] at h
    refine VCalls.of (fn := Tryz.f132) (N := 89) Tryz.func132 rfl rfl (fun w0 => ?_)
    by_cases c365 : (a0.length : Int) < 2
    · replace h := (if_pos c365).symm.trans h
      obtain ⟨c366, h⟩ := ifN h
      cases h
      exact byRet MX Tryz.func132 1000 [.b true, rowe 12 (eI .i64) 0 ([] : List Int), .aft 14, orow 768 (eI .i64) 0 (([] : List Int) ++ a0), .fin, .flat 768] (o1 (decide_eq_true c365) (o1 (GE.lit 1 (eI .i64) 0 ([] : List Int) (by intro x; rfl)) (o1 c366 (o1 (GE.app (e := (eI .i64)) (d := 0) ([] : List Int) a0 rfl (fun _ _ => CE.refl _) rfl) (o1 (SC.of (e := (eI .i64)) (d := 0) (([] : List Int) ++ a0) (by intro x; rfl)) on))))) (by kernel_rfl)
    · replace h := (if_neg c365).symm.trans h
      obtain ⟨c367, h⟩ := ifN h
      obtain ⟨c368, h⟩ := ifN h
      obtain ⟨t138, g369, h⟩ := bindN h
      let C369 := mkCon (ihf ((a0.drop (0 : Int).toNat).take ((w64 ((a0.length : Int).tdiv 2)).toNat - (0 : Int).toNat)) t138 g369) spec_l11Sorted.go
      obtain ⟨t139, g370, h⟩ := bindN h
      let C370 := mkCon (ihf ((a0.drop (w64 ((a0.length : Int).tdiv 2)).toNat).take ((a0.length : Int).toNat - (w64 ((a0.length : Int).tdiv 2)).toNat)) t139 g370) spec_l11Sorted.go
      have H0 : ∀ (kq : Nat) (v143 : List Int) (v144 : Int) (v145 : Int), spec_l11Sorted.l0 kq t138 t139 v143 v144 v145 = some r → AG Tryz.prog 132 89 [.c (.own 3 1 r.length (fun j => (eI .i64) (r.getD j 0)))] w0 (headStk (codeOf Tryz.f132) 0) (mkFS (spec_l11Sorted.h0T v144 v145 t138 t139 v143) (spec_l11Sorted.h0H v144 v145 t138 t139 v143)) := by
        intro kq
        induction kq with
        | zero => intro v143 v144 v145 h; cases h
        | succ kq ih =>
          intro v143 v144 v145 h
          rw [spec_l11Sorted.l0] at h
          by_cases c400 : v144 < (t138.length : Int)
          · replace h := (if_pos c400).symm.trans h
            by_cases c401 : (t139.length : Int) ≤ v145
            · replace h := (if_pos c401).symm.trans h
              obtain ⟨c402, h⟩ := ifN h
              by_cases c403 : (v143.length : Int) = 0
              · replace h := (if_pos c403).symm.trans h
                obtain ⟨c404, h⟩ := ifN h
                exact byHead MX Tryz.func132 1000 [.dec 32 true, .b true, .dec 42 true, .b true, .dec 74 true, .b true, rowe 86 (eI .i64) 0 ([(rdD 0 t138 v144)]), .aft 87, orow 1728 (eI .i64) 0 (v143 ++ [(rdD 0 t138 v144)]), .fin] (o1 (decide_eq_true c400) (o1 (rfl : true = true) (o1 (decide_eq_true c401) (o1 (rfl : true = true) (o1 c402 (o1 c400 (o1 (decide_eq_true c403) (o1 (rfl : true = true) (o1 (GE.lit 1 (eI .i64) 0 [(rdD 0 t138 v144)] (by intro x; rfl)) (o1 c404 (o1 (GE.app (e := (eI .i64)) (d := 0) v143 ([(rdD 0 t138 v144)]) rfl (fun _ _ => CE.refl _) rfl) on))))))))))) (ih (v143 ++ [(rdD 0 t138 v144)]) (w64 (v144 + 1)) v145 h) (by kernel_rfl)
              · replace h := (if_neg c403).symm.trans h
                obtain ⟨c405, h⟩ := ifN h
                obtain ⟨c406, h⟩ := ifN h
                by_cases c407 : (rdD 0 v143 (w64 ((v143.length : Int) - 1))) = (rdD 0 t138 v144)
                · replace h := (if_pos c407).symm.trans h
                  exact byHead MX Tryz.func132 1000 [.dec 32 true, .b true, .dec 42 true, .b true, .dec 74 false, .b false, .fin] (o1 (decide_eq_true c400) (o1 (rfl : true = true) (o1 (decide_eq_true c401) (o1 (rfl : true = true) (o1 c402 (o1 c400 (o1 (decide_eq_false c403) (o1 c405 (o1 c406 (o1 (bnf (decide_eq_true c407)) on)))))))))) (ih v143 (w64 (v144 + 1)) v145 h) (by kernel_rfl)
                · replace h := (if_neg c407).symm.trans h
                  obtain ⟨c408, h⟩ := ifN h
                  exact byHead MX Tryz.func132 1000 [.dec 32 true, .b true, .dec 42 true, .b true, .dec 74 false, .b true, rowe 86 (eI .i64) 0 ([(rdD 0 t138 v144)]), .aft 87, orow 1728 (eI .i64) 0 (v143 ++ [(rdD 0 t138 v144)]), .fin] (o1 (decide_eq_true c400) (o1 (rfl : true = true) (o1 (decide_eq_true c401) (o1 (rfl : true = true) (o1 c402 (o1 c400 (o1 (decide_eq_false c403) (o1 c405 (o1 c406 (o1 (bnt (decide_eq_false c407)) (o1 (GE.lit 1 (eI .i64) 0 [(rdD 0 t138 v144)] (by intro x; rfl)) (o1 c408 (o1 (GE.app (e := (eI .i64)) (d := 0) v143 ([(rdD 0 t138 v144)]) rfl (fun _ _ => CE.refl _) rfl) on))))))))))))) (ih (v143 ++ [(rdD 0 t138 v144)]) (w64 (v144 + 1)) v145 h) (by kernel_rfl)
            · replace h := (if_neg c401).symm.trans h
              obtain ⟨c409, h⟩ := ifN h
              obtain ⟨c410, h⟩ := ifN h
              obtain ⟨c411, h⟩ := ifN h
              by_cases c412 : (rdD 0 t138 v144) ≤ (rdD 0 t139 v145)
              · replace h := (if_pos c412).symm.trans h
                by_cases c413 : (v143.length : Int) = 0
                · replace h := (if_pos c413).symm.trans h
                  obtain ⟨c414, h⟩ := ifN h
                  exact byHead MX Tryz.func132 1000 [.dec 32 true, .b true, .dec 42 false, .dec 47 true, .b true, .dec 74 true, .b true, rowe 86 (eI .i64) 0 ([(rdD 0 t138 v144)]), .aft 87, orow 1728 (eI .i64) 0 (v143 ++ [(rdD 0 t138 v144)]), .fin] (o1 (decide_eq_true c400) (o1 (rfl : true = true) (o1 (decide_eq_false c401) (o1 (decide_eq_true c400) (o1 c409 (o1 c400 (o1 c410 (o1 c411 (o1 (decide_eq_true c412) (o1 c409 (o1 c400 (o1 (decide_eq_true c413) (o1 (rfl : true = true) (o1 (GE.lit 1 (eI .i64) 0 [(rdD 0 t138 v144)] (by intro x; rfl)) (o1 c414 (o1 (GE.app (e := (eI .i64)) (d := 0) v143 ([(rdD 0 t138 v144)]) rfl (fun _ _ => CE.refl _) rfl) on)))))))))))))))) (ih (v143 ++ [(rdD 0 t138 v144)]) (w64 (v144 + 1)) v145 h) (by kernel_rfl)
                · replace h := (if_neg c413).symm.trans h
                  obtain ⟨c415, h⟩ := ifN h
                  obtain ⟨c416, h⟩ := ifN h
                  by_cases c417 : (rdD 0 v143 (w64 ((v143.length : Int) - 1))) = (rdD 0 t138 v144)
                  · replace h := (if_pos c417).symm.trans h
                    exact byHead MX Tryz.func132 1000 [.dec 32 true, .b true, .dec 42 false, .dec 47 true, .b true, .dec 74 false, .b false, .fin] (o1 (decide_eq_true c400) (o1 (rfl : true = true) (o1 (decide_eq_false c401) (o1 (decide_eq_true c400) (o1 c409 (o1 c400 (o1 c410 (o1 c411 (o1 (decide_eq_true c412) (o1 c409 (o1 c400 (o1 (decide_eq_false c413) (o1 c415 (o1 c416 (o1 (bnf (decide_eq_true c417)) on))))))))))))))) (ih v143 (w64 (v144 + 1)) v145 h) (by kernel_rfl)
                  · replace h := (if_neg c417).symm.trans h
                    obtain ⟨c418, h⟩ := ifN h
                    exact byHead MX Tryz.func132 1000 [.dec 32 true, .b true, .dec 42 false, .dec 47 true, .b true, .dec 74 false, .b true, rowe 86 (eI .i64) 0 ([(rdD 0 t138 v144)]), .aft 87, orow 1728 (eI .i64) 0 (v143 ++ [(rdD 0 t138 v144)]), .fin] (o1 (decide_eq_true c400) (o1 (rfl : true = true) (o1 (decide_eq_false c401) (o1 (decide_eq_true c400) (o1 c409 (o1 c400 (o1 c410 (o1 c411 (o1 (decide_eq_true c412) (o1 c409 (o1 c400 (o1 (decide_eq_false c413) (o1 c415 (o1 c416 (o1 (bnt (decide_eq_false c417)) (o1 (GE.lit 1 (eI .i64) 0 [(rdD 0 t138 v144)] (by intro x; rfl)) (o1 c418 (o1 (GE.app (e := (eI .i64)) (d := 0) v143 ([(rdD 0 t138 v144)]) rfl (fun _ _ => CE.refl _) rfl) on)))))))))))))))))) (ih (v143 ++ [(rdD 0 t138 v144)]) (w64 (v144 + 1)) v145 h) (by kernel_rfl)
              · replace h := (if_neg c412).symm.trans h
                by_cases c419 : (v143.length : Int) = 0
                · replace h := (if_pos c419).symm.trans h
                  obtain ⟨c420, h⟩ := ifN h
                  exact byHead MX Tryz.func132 1000 [.dec 32 true, .b true, .dec 42 false, .dec 47 true, .b false, .dec 74 true, .b true, rowe 86 (eI .i64) 0 ([(rdD 0 t139 v145)]), .aft 87, orow 1728 (eI .i64) 0 (v143 ++ [(rdD 0 t139 v145)]), .fin] (o1 (decide_eq_true c400) (o1 (rfl : true = true) (o1 (decide_eq_false c401) (o1 (decide_eq_true c400) (o1 c409 (o1 c400 (o1 c410 (o1 c411 (o1 (decide_eq_false c412) (o1 c410 (o1 c411 (o1 (decide_eq_true c419) (o1 (rfl : true = true) (o1 (GE.lit 1 (eI .i64) 0 [(rdD 0 t139 v145)] (by intro x; rfl)) (o1 c420 (o1 (GE.app (e := (eI .i64)) (d := 0) v143 ([(rdD 0 t139 v145)]) rfl (fun _ _ => CE.refl _) rfl) on)))))))))))))))) (ih (v143 ++ [(rdD 0 t139 v145)]) v144 (w64 (v145 + 1)) h) (by kernel_rfl)
                · replace h := (if_neg c419).symm.trans h
                  obtain ⟨c421, h⟩ := ifN h
                  obtain ⟨c422, h⟩ := ifN h
                  by_cases c423 : (rdD 0 v143 (w64 ((v143.length : Int) - 1))) = (rdD 0 t139 v145)
                  · replace h := (if_pos c423).symm.trans h
                    exact byHead MX Tryz.func132 1000 [.dec 32 true, .b true, .dec 42 false, .dec 47 true, .b false, .dec 74 false, .b false, .fin] (o1 (decide_eq_true c400) (o1 (rfl : true = true) (o1 (decide_eq_false c401) (o1 (decide_eq_true c400) (o1 c409 (o1 c400 (o1 c410 (o1 c411 (o1 (decide_eq_false c412) (o1 c410 (o1 c411 (o1 (decide_eq_false c419) (o1 c421 (o1 c422 (o1 (bnf (decide_eq_true c423)) on))))))))))))))) (ih v143 v144 (w64 (v145 + 1)) h) (by kernel_rfl)
                  · replace h := (if_neg c423).symm.trans h
                    obtain ⟨c424, h⟩ := ifN h
                    exact byHead MX Tryz.func132 1000 [.dec 32 true, .b true, .dec 42 false, .dec 47 true, .b false, .dec 74 false, .b true, rowe 86 (eI .i64) 0 ([(rdD 0 t139 v145)]), .aft 87, orow 1728 (eI .i64) 0 (v143 ++ [(rdD 0 t139 v145)]), .fin] (o1 (decide_eq_true c400) (o1 (rfl : true = true) (o1 (decide_eq_false c401) (o1 (decide_eq_true c400) (o1 c409 (o1 c400 (o1 c410 (o1 c411 (o1 (decide_eq_false c412) (o1 c410 (o1 c411 (o1 (decide_eq_false c419) (o1 c421 (o1 c422 (o1 (bnt (decide_eq_false c423)) (o1 (GE.lit 1 (eI .i64) 0 [(rdD 0 t139 v145)] (by intro x; rfl)) (o1 c424 (o1 (GE.app (e := (eI .i64)) (d := 0) v143 ([(rdD 0 t139 v145)]) rfl (fun _ _ => CE.refl _) rfl) on)))))))))))))))))) (ih (v143 ++ [(rdD 0 t139 v145)]) v144 (w64 (v145 + 1)) h) (by kernel_rfl)
          · replace h := (if_neg c400).symm.trans h
            by_cases c425 : v145 < (t139.length : Int)
            · replace h := (if_pos c425).symm.trans h
              by_cases c426 : (t139.length : Int) ≤ v145
              · replace h := (if_pos c426).symm.trans h
                obtain ⟨c427, h⟩ := ifN h
                obtain ⟨c428, h⟩ := ifN h
                by_cases c429 : (v143.length : Int) = 0
                · replace h := (if_pos c429).symm.trans h
                  obtain ⟨c430, h⟩ := ifN h
                  exact byHead MX Tryz.func132 1000 [.dec 32 false, .b true, .dec 42 true, .b true, .dec 74 true, .b true, rowe 86 (eI .i64) 0 ([(rdD 0 t138 v144)]), .aft 87, orow 1728 (eI .i64) 0 (v143 ++ [(rdD 0 t138 v144)]), .fin] (o1 (decide_eq_false c400) (o1 (decide_eq_true c425) (o1 (decide_eq_true c426) (o1 (rfl : true = true) (o1 c427 (o1 c428 (o1 (decide_eq_true c429) (o1 (rfl : true = true) (o1 (GE.lit 1 (eI .i64) 0 [(rdD 0 t138 v144)] (by intro x; rfl)) (o1 c430 (o1 (GE.app (e := (eI .i64)) (d := 0) v143 ([(rdD 0 t138 v144)]) rfl (fun _ _ => CE.refl _) rfl) on))))))))))) (ih (v143 ++ [(rdD 0 t138 v144)]) (w64 (v144 + 1)) v145 h) (by kernel_rfl)
                · replace h := (if_neg c429).symm.trans h
                  obtain ⟨c431, h⟩ := ifN h
                  obtain ⟨c432, h⟩ := ifN h
                  by_cases c433 : (rdD 0 v143 (w64 ((v143.length : Int) - 1))) = (rdD 0 t138 v144)
                  · replace h := (if_pos c433).symm.trans h
                    exact byHead MX Tryz.func132 1000 [.dec 32 false, .b true, .dec 42 true, .b true, .dec 74 false, .b false, .fin] (o1 (decide_eq_false c400) (o1 (decide_eq_true c425) (o1 (decide_eq_true c426) (o1 (rfl : true = true) (o1 c427 (o1 c428 (o1 (decide_eq_false c429) (o1 c431 (o1 c432 (o1 (bnf (decide_eq_true c433)) on)))))))))) (ih v143 (w64 (v144 + 1)) v145 h) (by kernel_rfl)
                  · replace h := (if_neg c433).symm.trans h
                    obtain ⟨c434, h⟩ := ifN h
                    exact byHead MX Tryz.func132 1000 [.dec 32 false, .b true, .dec 42 true, .b true, .dec 74 false, .b true, rowe 86 (eI .i64) 0 ([(rdD 0 t138 v144)]), .aft 87, orow 1728 (eI .i64) 0 (v143 ++ [(rdD 0 t138 v144)]), .fin] (o1 (decide_eq_false c400) (o1 (decide_eq_true c425) (o1 (decide_eq_true c426) (o1 (rfl : true = true) (o1 c427 (o1 c428 (o1 (decide_eq_false c429) (o1 c431 (o1 c432 (o1 (bnt (decide_eq_false c433)) (o1 (GE.lit 1 (eI .i64) 0 [(rdD 0 t138 v144)] (by intro x; rfl)) (o1 c434 (o1 (GE.app (e := (eI .i64)) (d := 0) v143 ([(rdD 0 t138 v144)]) rfl (fun _ _ => CE.refl _) rfl) on))))))))))))) (ih (v143 ++ [(rdD 0 t138 v144)]) (w64 (v144 + 1)) v145 h) (by kernel_rfl)
              · replace h := (if_neg c426).symm.trans h
                obtain ⟨c435, h⟩ := ifN h
                by_cases c436 : (v143.length : Int) = 0
                · replace h := (if_pos c436).symm.trans h
                  obtain ⟨c437, h⟩ := ifN h
                  exact byHead MX Tryz.func132 1000 [.dec 32 false, .b true, .dec 42 false, .dec 47 false, .b false, .dec 74 true, .b true, rowe 86 (eI .i64) 0 ([(rdD 0 t139 v145)]), .aft 87, orow 1728 (eI .i64) 0 (v143 ++ [(rdD 0 t139 v145)]), .fin] (o1 (decide_eq_false c400) (o1 (decide_eq_true c425) (o1 (decide_eq_false c426) (o1 (decide_eq_false c400) (o1 (rfl : false = false) (o1 c435 (o1 c425 (o1 (decide_eq_true c436) (o1 (rfl : true = true) (o1 (GE.lit 1 (eI .i64) 0 [(rdD 0 t139 v145)] (by intro x; rfl)) (o1 c437 (o1 (GE.app (e := (eI .i64)) (d := 0) v143 ([(rdD 0 t139 v145)]) rfl (fun _ _ => CE.refl _) rfl) on)))))))))))) (ih (v143 ++ [(rdD 0 t139 v145)]) v144 (w64 (v145 + 1)) h) (by kernel_rfl)
                · replace h := (if_neg c436).symm.trans h
                  obtain ⟨c438, h⟩ := ifN h
                  obtain ⟨c439, h⟩ := ifN h
                  by_cases c440 : (rdD 0 v143 (w64 ((v143.length : Int) - 1))) = (rdD 0 t139 v145)
                  · replace h := (if_pos c440).symm.trans h
                    exact byHead MX Tryz.func132 1000 [.dec 32 false, .b true, .dec 42 false, .dec 47 false, .b false, .dec 74 false, .b false, .fin] (o1 (decide_eq_false c400) (o1 (decide_eq_true c425) (o1 (decide_eq_false c426) (o1 (decide_eq_false c400) (o1 (rfl : false = false) (o1 c435 (o1 c425 (o1 (decide_eq_false c436) (o1 c438 (o1 c439 (o1 (bnf (decide_eq_true c440)) on))))))))))) (ih v143 v144 (w64 (v145 + 1)) h) (by kernel_rfl)
                  · replace h := (if_neg c440).symm.trans h
                    obtain ⟨c441, h⟩ := ifN h
                    exact byHead MX Tryz.func132 1000 [.dec 32 false, .b true, .dec 42 false, .dec 47 false, .b false, .dec 74 false, .b true, rowe 86 (eI .i64) 0 ([(rdD 0 t139 v145)]), .aft 87, orow 1728 (eI .i64) 0 (v143 ++ [(rdD 0 t139 v145)]), .fin] (o1 (decide_eq_false c400) (o1 (decide_eq_true c425) (o1 (decide_eq_false c426) (o1 (decide_eq_false c400) (o1 (rfl : false = false) (o1 c435 (o1 c425 (o1 (decide_eq_false c436) (o1 c438 (o1 c439 (o1 (bnt (decide_eq_false c440)) (o1 (GE.lit 1 (eI .i64) 0 [(rdD 0 t139 v145)] (by intro x; rfl)) (o1 c441 (o1 (GE.app (e := (eI .i64)) (d := 0) v143 ([(rdD 0 t139 v145)]) rfl (fun _ _ => CE.refl _) rfl) on)))))))))))))) (ih (v143 ++ [(rdD 0 t139 v145)]) v144 (w64 (v145 + 1)) h) (by kernel_rfl)
            · replace h := (if_neg c425).symm.trans h
              cases h
              exact byRet MX Tryz.func132 1000 [.dec 32 false, .b false, .fin, .fin] (o1 (decide_eq_false c400) (o1 (decide_eq_false c425) on)) (by kernel_rfl)
      exact byHead MX Tryz.func132 1000 [.b false, .cst 19 (R 1 (eI .i64) 0 ((a0.drop (0 : Int).toNat).take ((w64 ((a0.length : Int).tdiv 2)).toNat - (0 : Int).toNat))), .call C369, .cst 25 (R 1 (eI .i64) 0 ((a0.drop (w64 ((a0.length : Int).tdiv 2)).toNat).take ((a0.length : Int).toNat - (w64 ((a0.length : Int).tdiv 2)).toNat))), .call C370, rowe 27 (eI .i64) 0 ([] : List Int), .fin] (o1 (decide_eq_false c365) (o1 (by decide : (2 : Int) ≠ 0) (o1 (by decide : (0 : Int) ≤ 0) (o1 c367 (o1 c368 (o1 (VE.cut (z := 1) (e := (eI .i64)) (d := 0) a0 (n := a0.length) (lo := 0) (hi := (w64 ((a0.length : Int).tdiv 2))) rfl (by decide : (0 : Int) ≤ 0) c367 c368) (oa (sc_ C369) (o1 (by decide : (2 : Int) ≠ 0) (o1 c367 (o1 c368 (o1 (Int.le_refl (a0.length : Int)) (o1 (VE.cut (z := 1) (e := (eI .i64)) (d := 0) a0 (n := a0.length) (lo := (w64 ((a0.length : Int).tdiv 2))) (hi := (a0.length : Int)) rfl c367 c368 (Int.le_refl (a0.length : Int))) (oa (sc_ C370) (o1 (GE.lit 1 (eI .i64) 0 ([] : List Int) (by intro x; rfl)) on)))))))))))))) (H0 k ([] : List Int) 0 0 h) (by kernel_rfl)

/-! ### spec_CellsUsed: function 149 -/
def spec_CellsUsed.h0T (a0 : List S72) (v137 : Int) (v136 : List Int) : List (Nat × AV) := [(0, .t (.c (.p false (R 1 e72 z72 a0)))), (3, .t (.c (.h 320))), (4, .t (.c (.p true (.sc (.int .i64 v137)))))]
def spec_CellsUsed.h0H (a0 : List S72) (v137 : Int) (v136 : List Int) : List (Nat × Content) := [(320, .row 3 1 v136.length (fun j => (eI .i64) (v136.getD j 0)) true)]
def spec_CellsUsed.l0 : Nat → List S72 → List Int → Int → Option (List Int)
  | 0, _, _, _ => none
  | kq + 1, a0, v136, v137 => if v137 < (a0.length : Int) then (if 0 ≤ v137 then (if (v136.length + ((rdD z72 a0 v137).f0).length) * 8 ≤ 140737488355328 then (spec_CellsUsed.l0 kq a0 (v136 ++ (rdD z72 a0 v137).f0) (w64 (v137 + 1))) else none) else none) else ((spec_l11Sorted.f kq v136).bind fun t146 => some t146)
def spec_CellsUsed.f (k : Nat) (a0 : List S72) : Option (List Int) := spec_CellsUsed.l0 k a0 ([] : List Int) 0
theorem spec_CellsUsed.go : Callable Tryz.prog 149 := ⟨_, Tryz.func149, by kernel_rfl, rfl⟩
theorem spec_CellsUsed.ok (k : Nat) (a0 : List S72) (r : (List Int)) (h : spec_CellsUsed.f k a0 = some r) : VCalls Tryz.prog 149 [.c (R 1 e72 z72 a0)] [.c (.own 3 1 r.length (fun j => (eI .i64) (r.getD j 0)))] := by
  unfold spec_CellsUsed.f at h
  refine VCalls.of (fn := Tryz.f149) (N := 21) Tryz.func149 rfl rfl (fun w0 => ?_)
  have H0 : ∀ (kq : Nat) (v136 : List Int) (v137 : Int), spec_CellsUsed.l0 kq a0 v136 v137 = some r → AG Tryz.prog 149 21 [.c (.own 3 1 r.length (fun j => (eI .i64) (r.getD j 0)))] w0 (headStk (codeOf Tryz.f149) 0) (mkFS (spec_CellsUsed.h0T a0 v137 v136) (spec_CellsUsed.h0H a0 v137 v136)) := by
    intro kq
    induction kq with
    | zero => intro v136 v137 h; cases h
    | succ kq ih =>
      intro v136 v137 h
      rw [spec_CellsUsed.l0] at h
      by_cases c362 : v137 < (a0.length : Int)
      · replace h := (if_pos c362).symm.trans h
        obtain ⟨c363, h⟩ := ifN h
        obtain ⟨c364, h⟩ := ifN h
        exact byHead MX Tryz.func149 1000 [.b true, .aft 18, orow 320 (eI .i64) 0 (v136 ++ (rdD z72 a0 v137).f0), .reg 4, .flat 320, .fin] (o1 (decide_eq_true c362) (o1 c363 (o1 c362 (o1 c364 (o1 (GE.app (e := (eI .i64)) (d := 0) v136 ((rdD z72 a0 v137).f0) rfl (fun _ _ => CE.refl _) rfl) (o1 (SC.of (e := (eI .i64)) (d := 0) (v136 ++ (rdD z72 a0 v137).f0) (by intro x; rfl)) on)))))) (ih (v136 ++ (rdD z72 a0 v137).f0) (w64 (v137 + 1)) h) (by kernel_rfl)
      · replace h := (if_neg c362).symm.trans h
        obtain ⟨t146, g442, h⟩ := bindN h
        let C442 := mkCon (spec_l11Sorted.ok kq v136 t146 g442) spec_l11Sorted.go
        cases h
        exact byRet MX Tryz.func149 1000 [.b false, .fin, .call C442, .fin] (o1 (decide_eq_false c362) (oa (sc_ C442) on)) (by kernel_rfl)
  exact byHead MX Tryz.func149 1000 [rowe 5 (eI .i64) 0 ([] : List Int), .fin] (o1 (GE.lit 1 (eI .i64) 0 ([] : List Int) (by intro x; rfl)) on) (H0 k ([] : List Int) 0 h) (by kernel_rfl)

/-! ### spec_Footprint: function 82 -/
def spec_Footprint.f (k : Nat) (a0 : S48) : Option (List Int) := if a0.f4 = true then ((spec_CellsUsed.f k a0.f5.f2).bind fun t147 => some t147) else (some ([] : List Int))
theorem spec_Footprint.go : Callable Tryz.prog 82 := ⟨_, Tryz.func82, by kernel_rfl, rfl⟩
theorem spec_Footprint.ok (k : Nat) (a0 : S48) (r : (List Int)) (h : spec_Footprint.f k a0 = some r) : VCalls Tryz.prog 82 [.agg (e48 a0)] [.c (.own 3 1 r.length (fun j => (eI .i64) (r.getD j 0)))] := by
  unfold spec_Footprint.f at h
  refine VCalls.of (fn := Tryz.f82) (N := 11) Tryz.func82 rfl rfl (fun w0 => ?_)
  by_cases c356 : a0.f4 = true
  · replace h := (if_pos c356).symm.trans h
    obtain ⟨t147, g443, h⟩ := bindN h
    let C443 := mkCon (spec_CellsUsed.ok k a0.f5.f2 t147 g443) spec_CellsUsed.go
    cases h
    exact byRet MX Tryz.func82 1000 [.b false, .call C443, .fin] (o1 (bnf c356) (oa (sc_ C443) on)) (by kernel_rfl)
  · replace h := (if_neg c356).symm.trans h
    cases h
    exact byRet MX Tryz.func82 1000 [.b true, rowe 6 (eI .i64) 0 ([] : List Int), .fin] (o1 (bnt (eqf c356)) (o1 (GE.lit 1 (eI .i64) 0 ([] : List Int) (by intro x; rfl)) on)) (by kernel_rfl)

/-! ### spec_Walled: function 85 -/
def spec_Walled.h0T (a1 : List Int) (v177 : Int) (a0 : S38) (v176 : List Int) : List (Nat × AV) := [(1, .t (.c (.p false (R 1 (eI .i64) 0 a1)))), (2, .ptr 128 0), (4, .ptr 256 0), (5, .t (.c (.h 832))), (6, .t (.c (.p true (.sc (.int .i64 v177)))))]
def spec_Walled.h0H (a1 : List Int) (v177 : Int) (a0 : S38) (v176 : List Int) : List (Nat × Content) := [(128, .box 38 [.p false (.sc (.int .i64 a0.f0)), .p false (.sc (.int .i64 a0.f1)), .p false (.sc (.string a0.f2))]), (256, .box 38 [.p true (.sc (.int .i64 0)), .p true (.sc (.int .i64 0)), .p true (.sc (.string (⟨#[]⟩ : ByteArray)))]), (832, .row 1099511627781 1 v176.length (fun j => (eI .u8) (v176.getD j 0)) true)]
def spec_Walled.l0 : Nat → List Int → S38 → List Int → Int → Option S38
  | 0, _, _, _, _ => none
  | kq + 1, a1, a0, v176, v177 => if v177 < (a1.length : Int) then (if 0 ≤ v177 then (if 0 ≤ (rdD 0 a1 v177) then (if (rdD 0 a1 v177) < (v176.length : Int) then (spec_Walled.l0 kq a1 a0 (v176.set (rdD 0 a1 v177).toNat 35) (w64 (v177 + 1))) else (spec_Walled.l0 kq a1 a0 v176 (w64 (v177 + 1)))) else (spec_Walled.l0 kq a1 a0 v176 (w64 (v177 + 1)))) else none) else (if isBytes v176 = true then (some (⟨a0.f0, a0.f1, (strOf v176)⟩ : S38)) else none)
def spec_Walled.f (k : Nat) (a0 : S38) (a1 : List Int) : Option S38 := (spec_GridOk.f k a0).bind fun t174 => if t174 = true then (if a0.f2.size ≤ maxLen then (spec_Walled.l0 k a1 a0 (bytesOf a0.f2) 0) else none) else (some a0)
theorem spec_Walled.go : Callable Tryz.prog 85 := ⟨_, Tryz.func85, by kernel_rfl, rfl⟩
theorem spec_Walled.ok (k : Nat) (a0 : S38) (a1 : List Int) (r : S38) (h : spec_Walled.f k a0 a1 = some r) : VCalls Tryz.prog 85 [.agg (e38 a0), .c (R 1 (eI .i64) 0 a1)] [.agg (r38 r)] := by
  unfold spec_Walled.f at h
  refine VCalls.of (fn := Tryz.f85) (N := 47) Tryz.func85 rfl rfl (fun w0 => ?_)
  obtain ⟨t174, g494, h⟩ := bindN h
  let C494 := mkCon (spec_GridOk.ok k a0 t174 g494) spec_GridOk.go
  by_cases c495 : t174 = true
  · replace h := (if_pos c495).symm.trans h
    obtain ⟨c496, h⟩ := ifN h
    have H0 : ∀ (kq : Nat) (v176 : List Int) (v177 : Int), spec_Walled.l0 kq a1 a0 v176 v177 = some r → AG Tryz.prog 85 47 [.agg (r38 r)] w0 (headStk (codeOf Tryz.f85) 0) (mkFS (spec_Walled.h0T a1 v177 a0 v176) (spec_Walled.h0H a1 v177 a0 v176)) := by
      intro kq
      induction kq with
      | zero => intro v176 v177 h; cases h
      | succ kq ih =>
        intro v176 v177 h
        rw [spec_Walled.l0] at h
        by_cases c504 : v177 < (a1.length : Int)
        · replace h := (if_pos c504).symm.trans h
          obtain ⟨c505, h⟩ := ifN h
          by_cases c506 : 0 ≤ (rdD 0 a1 v177)
          · replace h := (if_pos c506).symm.trans h
            by_cases c507 : (rdD 0 a1 v177) < (v176.length : Int)
            · replace h := (if_pos c507).symm.trans h
              exact byHead MX Tryz.func85 1000 [.b true, .dec 25 true, .b true, .aft 999999, orow 832 (eI .u8) 0 (v176.set (rdD 0 a1 v177).toNat 35), .fin] (o1 (decide_eq_true c504) (o1 c505 (o1 c504 (o1 (decide_eq_true c506) (o1 c505 (o1 c504 (o1 (decide_eq_true c507) (o1 c505 (o1 c504 (o1 c506 (o1 c507 (o1 (GE.set (e := (eI .u8)) (d := 0) v176 (rdD 0 a1 v177).toNat 35 (lt_toNat c506 c507) rfl) on)))))))))))) (ih (v176.set (rdD 0 a1 v177).toNat 35) (w64 (v177 + 1)) h) (by kernel_rfl)
            · replace h := (if_neg c507).symm.trans h
              exact byHead MX Tryz.func85 1000 [.b true, .dec 25 true, .b false, .fin] (o1 (decide_eq_true c504) (o1 c505 (o1 c504 (o1 (decide_eq_true c506) (o1 c505 (o1 c504 (o1 (decide_eq_false c507) on))))))) (ih v176 (w64 (v177 + 1)) h) (by kernel_rfl)
          · replace h := (if_neg c506).symm.trans h
            exact byHead MX Tryz.func85 1000 [.b true, .dec 25 false, .b false, .fin] (o1 (decide_eq_true c504) (o1 c505 (o1 c504 (o1 (decide_eq_false c506) (o1 (rfl : false = false) on))))) (ih v176 (w64 (v177 + 1)) h) (by kernel_rfl)
        · replace h := (if_neg c504).symm.trans h
          obtain ⟨c508, h⟩ := ifN h
          cases h
          exact byRet MX Tryz.func85 1000 [.b false, .fin, .cst 45 (.sc (.string (strOf v176))), .fin] (o1 (decide_eq_false c504) (o1 (ByOk.of c508) (o1 (VE.str v176) on))) (by kernel_rfl)
    exact byHead MX Tryz.func85 1000 [.call C494, .b false, rowe 13 (eI .u8) 0 (bytesOf a0.f2), .fin] (oa (sc_ C494) (o1 (bnf c495) (o1 c496 (o1 (GE.bytes a0.f2) on)))) (H0 k (bytesOf a0.f2) 0 h) (by kernel_rfl)
  · replace h := (if_neg c495).symm.trans h
    cases h
    exact byRet MX Tryz.func85 1000 [.call C494, .b true, .fin] (oa (sc_ C494) (o1 (bnt (eqf c495)) on)) (by kernel_rfl)

/-! ### spec_FreeCells: function 205 -/
def spec_FreeCells.h0T (v188 : Int) (a0 : S38) (v187 : List Int) : List (Nat × AV) := [(1, .ptr 64 0), (3, .t (.c (.h 320))), (4, .t (.c (.p true (.sc (.int .i64 v188)))))]
def spec_FreeCells.h0H (v188 : Int) (a0 : S38) (v187 : List Int) : List (Nat × Content) := [(64, .box 38 [.p false (.sc (.int .i64 a0.f0)), .p false (.sc (.int .i64 a0.f1)), .p false (.sc (.string a0.f2))]), (320, .row 3 1 v187.length (fun j => (eI .i64) (v187.getD j 0)) true)]
def spec_FreeCells.l0 : Nat → S38 → List Int → Int → Option (List Int)
  | 0, _, _, _ => none
  | kq + 1, a0, v187, v188 => if v188 < (a0.f2.size : Int) then (if v188 < 64 then ((spec_FreeAt.f kq a0 v188).bind fun t189 => if t189 = true then (if (v187.length + 1) * 8 ≤ 140737488355328 then (spec_FreeCells.l0 kq a0 (v187 ++ [v188]) (w64 (v188 + 1))) else none) else (spec_FreeCells.l0 kq a0 v187 (w64 (v188 + 1)))) else (some v187)) else (some v187)
def spec_FreeCells.f (k : Nat) (a0 : S38) : Option (List Int) := spec_FreeCells.l0 k a0 ([] : List Int) 0
theorem spec_FreeCells.go : Callable Tryz.prog 205 := ⟨_, Tryz.func205, by kernel_rfl, rfl⟩
theorem spec_FreeCells.ok (k : Nat) (a0 : S38) (r : (List Int)) (h : spec_FreeCells.f k a0 = some r) : VCalls Tryz.prog 205 [.agg (e38 a0)] [.c (.own 3 1 r.length (fun j => (eI .i64) (r.getD j 0)))] := by
  unfold spec_FreeCells.f at h
  refine VCalls.of (fn := Tryz.f205) (N := 25) Tryz.func205 rfl rfl (fun w0 => ?_)
  have H0 : ∀ (kq : Nat) (v187 : List Int) (v188 : Int), spec_FreeCells.l0 kq a0 v187 v188 = some r → AG Tryz.prog 205 25 [.c (.own 3 1 r.length (fun j => (eI .i64) (r.getD j 0)))] w0 (headStk (codeOf Tryz.f205) 0) (mkFS (spec_FreeCells.h0T v188 a0 v187) (spec_FreeCells.h0H v188 a0 v187)) := by
    intro kq
    induction kq with
    | zero => intro v187 v188 h; cases h
    | succ kq ih =>
      intro v187 v188 h
      rw [spec_FreeCells.l0] at h
      by_cases c531 : v188 < (a0.f2.size : Int)
      · replace h := (if_pos c531).symm.trans h
        by_cases c532 : v188 < 64
        · replace h := (if_pos c532).symm.trans h
          obtain ⟨t189, g533, h⟩ := bindN h
          let C533 := mkCon (spec_FreeAt.ok kq a0 v188 t189 g533) spec_FreeAt.go
          by_cases c534 : t189 = true
          · replace h := (if_pos c534).symm.trans h
            obtain ⟨c535, h⟩ := ifN h
            exact byHead MX Tryz.func205 1000 [.dec 11 true, .b true, .call C533, .b true, rowe 22 (eI .i64) 0 ([v188]), .aft 23, orow 320 (eI .i64) 0 (v187 ++ [v188]), .fin] (o1 (decide_eq_true c531) (o1 (decide_eq_true c532) (oa (sc_ C533) (o1 c534 (o1 (GE.lit 1 (eI .i64) 0 [v188] (by intro x; rfl)) (o1 c535 (o1 (GE.app (e := (eI .i64)) (d := 0) v187 ([v188]) rfl (fun _ _ => CE.refl _) rfl) on))))))) (ih (v187 ++ [v188]) (w64 (v188 + 1)) h) (by kernel_rfl)
          · replace h := (if_neg c534).symm.trans h
            exact byHead MX Tryz.func205 1000 [.dec 11 true, .b true, .call C533, .b false, .fin] (o1 (decide_eq_true c531) (o1 (decide_eq_true c532) (oa (sc_ C533) (o1 (eqf c534) on)))) (ih v187 (w64 (v188 + 1)) h) (by kernel_rfl)
        · replace h := (if_neg c532).symm.trans h
          cases h
          exact byRet MX Tryz.func205 1000 [.dec 11 true, .b false, .fin, .fin] (o1 (decide_eq_true c531) (o1 (decide_eq_false c532) on)) (by kernel_rfl)
      · replace h := (if_neg c531).symm.trans h
        cases h
        exact byRet MX Tryz.func205 1000 [.dec 11 false, .b false, .fin, .fin] (o1 (decide_eq_false c531) (o1 (rfl : false = false) on)) (by kernel_rfl)
  exact byHead MX Tryz.func205 1000 [rowe 5 (eI .i64) 0 ([] : List Int), .fin] (o1 (GE.lit 1 (eI .i64) 0 ([] : List Int) (by intro x; rfl)) on) (H0 k ([] : List Int) 0 h) (by kernel_rfl)

/-! ### spec_AskOk: function 150 -/
def spec_AskOk.f (k : Nat) (a0 : S38) (a1 : List Int) (a2 : List Int) (a3 : Int) : Option Bool := (spec_GridOk.f k a0).bind fun t179 => if t179 = true then ((spec_l01In.f (a1.length : Int) 1 10).bind fun t180 => if t180 = true then (if (a1.length : Int) < (a2.length : Int) then (some false) else ((spec_l01In.f a3 0 20).bind fun t181 => if t181 = true then ((spec_l10Cells.f k a0 a1).bind fun t182 => if t182 = true then ((spec_l10Cells.f k a0 a2).bind fun t183 => if t183 = true then ((spec_FreeCells.f k a0).bind fun t190 => some (decide ((w64 ((t190.length : Int) * (w64 (a3 + 1)))) ≤ 240))) else (some false)) else (some false)) else (some false))) else (some false)) else (some false)
theorem spec_AskOk.go : Callable Tryz.prog 150 := ⟨_, Tryz.func150, by kernel_rfl, rfl⟩
theorem spec_AskOk.ok (k : Nat) (a0 : S38) (a1 : List Int) (a2 : List Int) (a3 : Int) (r : Bool) (h : spec_AskOk.f k a0 a1 a2 a3 = some r) : VCalls Tryz.prog 150 [.agg (e38 a0), .c (R 1 (eI .i64) 0 a1), .c (R 1 (eI .i64) 0 a2), .c (.sc (.int .i64 a3))] [.c (.p (.sc (.bool r)))] := by
  unfold spec_AskOk.f at h
  refine VCalls.of (fn := Tryz.f150) (N := 47) Tryz.func150 rfl rfl (fun w0 => ?_)
  obtain ⟨t179, g510, h⟩ := bindN h
  let C510 := mkCon (spec_GridOk.ok k a0 t179 g510) spec_GridOk.go
  by_cases c511 : t179 = true
  · replace h := (if_pos c511).symm.trans h
    obtain ⟨t180, g512, h⟩ := bindN h
    let C512 := mkCon (spec_l01In.ok (a1.length : Int) 1 10 t180 g512) spec_l01In.go
    by_cases c513 : t180 = true
    · replace h := (if_pos c513).symm.trans h
      by_cases c514 : (a1.length : Int) < (a2.length : Int)
      · replace h := (if_pos c514).symm.trans h
        cases h
        exact byRet MX Tryz.func150 1000 [.call C510, .dec 12 false, .call C512, .dec 18 false, .dec 25 true, .b true, .fin] (oa (sc_ C510) (o1 (bnf c511) (oa (sc_ C512) (o1 (bnf c513) (o1 (decide_eq_true c514) (o1 (rfl : true = true) on)))))) (by kernel_rfl)
      · replace h := (if_neg c514).symm.trans h
        obtain ⟨t181, g515, h⟩ := bindN h
        let C515 := mkCon (spec_l01In.ok a3 0 20 t181 g515) spec_l01In.go
        by_cases c516 : t181 = true
        · replace h := (if_pos c516).symm.trans h
          obtain ⟨t182, g517, h⟩ := bindN h
          let C517 := mkCon (spec_l10Cells.ok k a0 a1 t182 g517) spec_l10Cells.go
          by_cases c518 : t182 = true
          · replace h := (if_pos c518).symm.trans h
            obtain ⟨t183, g519, h⟩ := bindN h
            let C519 := mkCon (spec_l10Cells.ok k a0 a2 t183 g519) spec_l10Cells.go
            by_cases c520 : t183 = true
            · replace h := (if_pos c520).symm.trans h
              obtain ⟨t190, g536, h⟩ := bindN h
              let C536 := mkCon (spec_FreeCells.ok k a0 t190 g536) spec_FreeCells.go
              cases h
              exact byRet MX Tryz.func150 1000 [.call C510, .dec 12 false, .call C512, .dec 18 false, .dec 25 false, .call C515, .b false, .call C517, .dec 33 true, .call C519, .dec 38 true, .call C536, .fin] (oa (sc_ C510) (o1 (bnf c511) (oa (sc_ C512) (o1 (bnf c513) (o1 (decide_eq_false c514) (oa (sc_ C515) (o1 (bnf c516) (oa (sc_ C517) (o1 c518 (oa (sc_ C519) (o1 c520 (oa (sc_ C536) on)))))))))))) (by kernel_rfl)
            · replace h := (if_neg c520).symm.trans h
              cases h
              exact byRet MX Tryz.func150 1000 [.call C510, .dec 12 false, .call C512, .dec 18 false, .dec 25 false, .call C515, .b false, .call C517, .dec 33 true, .call C519, .dec 38 false, .fin] (oa (sc_ C510) (o1 (bnf c511) (oa (sc_ C512) (o1 (bnf c513) (o1 (decide_eq_false c514) (oa (sc_ C515) (o1 (bnf c516) (oa (sc_ C517) (o1 c518 (oa (sc_ C519) (o1 (eqf c520) on))))))))))) (by kernel_rfl)
          · replace h := (if_neg c518).symm.trans h
            cases h
            exact byRet MX Tryz.func150 1000 [.call C510, .dec 12 false, .call C512, .dec 18 false, .dec 25 false, .call C515, .b false, .call C517, .dec 33 false, .fin] (oa (sc_ C510) (o1 (bnf c511) (oa (sc_ C512) (o1 (bnf c513) (o1 (decide_eq_false c514) (oa (sc_ C515) (o1 (bnf c516) (oa (sc_ C517) (o1 (eqf c518) on))))))))) (by kernel_rfl)
        · replace h := (if_neg c516).symm.trans h
          cases h
          exact byRet MX Tryz.func150 1000 [.call C510, .dec 12 false, .call C512, .dec 18 false, .dec 25 false, .call C515, .b true, .fin] (oa (sc_ C510) (o1 (bnf c511) (oa (sc_ C512) (o1 (bnf c513) (o1 (decide_eq_false c514) (oa (sc_ C515) (o1 (bnt (eqf c516)) on))))))) (by kernel_rfl)
    · replace h := (if_neg c513).symm.trans h
      cases h
      exact byRet MX Tryz.func150 1000 [.call C510, .dec 12 false, .call C512, .dec 18 true, .b true, .fin] (oa (sc_ C510) (o1 (bnf c511) (oa (sc_ C512) (o1 (bnt (eqf c513)) (o1 (rfl : true = true) on))))) (by kernel_rfl)
  · replace h := (if_neg c511).symm.trans h
    cases h
    exact byRet MX Tryz.func150 1000 [.call C510, .dec 12 true, .b true, .fin] (oa (sc_ C510) (o1 (bnt (eqf c511)) (o1 (rfl : true = true) on))) (by kernel_rfl)

/-! ### spec_l12Form: function 151 -/
def spec_l12Form.h0T (a0 : List Int) (v192 : Int) (a1 : S45) : List (Nat × AV) := [(0, .t (.c (.p false (R 1 (eI .i64) 0 a0)))), (3, .ptr 192 0), (5, .t (.c (.p true (.sc (.int .i64 v192)))))]
def spec_l12Form.h0H (a0 : List Int) (v192 : Int) (a1 : S45) : List (Nat × Content) := [(192, .box 45 [.p false (.sc (.int .i64 a1.f0)), .p false (.sc (.int .i64 a1.f1)), .p false (R 1 e72 z72 a1.f2)])]
def spec_l12Form.l0 : Nat → List Int → S45 → Int → Option Bool
  | 0, _, _, _ => none
  | kq + 1, a0, a1, v192 => if v192 < (a0.length : Int) then (if 0 ≤ v192 then (if v192 < (a1.f2.length : Int) then (if (((rdD z72 a1.f2 v192).f0).length : Int) = (w64 (a1.f0 + 1)) then (if 0 < (((rdD z72 a1.f2 v192).f0).length : Int) then (if (rdD 0 ((rdD z72 a1.f2 v192).f0) 0) = (rdD 0 a0 v192) then (spec_l12Form.l0 kq a0 a1 (w64 (v192 + 1))) else (some false)) else none) else (some false)) else none) else none) else (some true)
def spec_l12Form.f (k : Nat) (a0 : List Int) (a1 : S45) : Option Bool := if (a1.f2.length : Int) = (a0.length : Int) then (spec_l12Form.l0 k a0 a1 0) else (some false)
theorem spec_l12Form.go : Callable Tryz.prog 151 := ⟨_, Tryz.func151, by kernel_rfl, rfl⟩
theorem spec_l12Form.ok (k : Nat) (a0 : List Int) (a1 : S45) (r : Bool) (h : spec_l12Form.f k a0 a1 = some r) : VCalls Tryz.prog 151 [.c (R 1 (eI .i64) 0 a0), .agg (e45 a1)] [.c (.p (.sc (.bool r)))] := by
  unfold spec_l12Form.f at h
  refine VCalls.of (fn := Tryz.f151) (N := 44) Tryz.func151 rfl rfl (fun w0 => ?_)
  by_cases c539 : (a1.f2.length : Int) = (a0.length : Int)
  · replace h := (if_pos c539).symm.trans h
    have H0 : ∀ (kq : Nat) (v192 : Int), spec_l12Form.l0 kq a0 a1 v192 = some r → AG Tryz.prog 151 44 [.c (.p (.sc (.bool r)))] w0 (headStk (codeOf Tryz.f151) 0) (mkFS (spec_l12Form.h0T a0 v192 a1) (spec_l12Form.h0H a0 v192 a1)) := by
      intro kq
      induction kq with
      | zero => intro v192 h; cases h
      | succ kq ih =>
        intro v192 h
        rw [spec_l12Form.l0] at h
        by_cases c545 : v192 < (a0.length : Int)
        · replace h := (if_pos c545).symm.trans h
          obtain ⟨c546, h⟩ := ifN h
          obtain ⟨c547, h⟩ := ifN h
          by_cases c548 : (((rdD z72 a1.f2 v192).f0).length : Int) = (w64 (a1.f0 + 1))
          · replace h := (if_pos c548).symm.trans h
            obtain ⟨c549, h⟩ := ifN h
            by_cases c550 : (rdD 0 ((rdD z72 a1.f2 v192).f0) 0) = (rdD 0 a0 v192)
            · replace h := (if_pos c550).symm.trans h
              exact byHead MX Tryz.func151 1000 [.b true, .dec 29 false, .b false, .fin] (o1 (decide_eq_true c545) (o1 c546 (o1 c547 (o1 (bnf (decide_eq_true c548)) (o1 c546 (o1 c547 (o1 (by decide : (0 : Int) ≤ 0) (o1 c549 (o1 c546 (o1 c545 (o1 (bnf (decide_eq_true c550)) on))))))))))) (ih (w64 (v192 + 1)) h) (by kernel_rfl)
            · replace h := (if_neg c550).symm.trans h
              cases h
              exact byRet MX Tryz.func151 1000 [.b true, .dec 29 false, .b true, .fin] (o1 (decide_eq_true c545) (o1 c546 (o1 c547 (o1 (bnf (decide_eq_true c548)) (o1 c546 (o1 c547 (o1 (by decide : (0 : Int) ≤ 0) (o1 c549 (o1 c546 (o1 c545 (o1 (bnt (decide_eq_false c550)) on))))))))))) (by kernel_rfl)
          · replace h := (if_neg c548).symm.trans h
            cases h
            exact byRet MX Tryz.func151 1000 [.b true, .dec 29 true, .b true, .fin] (o1 (decide_eq_true c545) (o1 c546 (o1 c547 (o1 (bnt (decide_eq_false c548)) (o1 (rfl : true = true) on))))) (by kernel_rfl)
        · replace h := (if_neg c545).symm.trans h
          cases h
          exact byRet MX Tryz.func151 1000 [.b false, .fin, .fin] (o1 (decide_eq_false c545) on) (by kernel_rfl)
    exact byHead MX Tryz.func151 1000 [.b false, .fin] (o1 (bnf (decide_eq_true c539)) on) (H0 k 0 h) (by kernel_rfl)
  · replace h := (if_neg c539).symm.trans h
    cases h
    exact byRet MX Tryz.func151 1000 [.b true, .fin] (o1 (bnt (decide_eq_false c539)) on) (by kernel_rfl)

/-! ### spec_LevelWays: function 206 -/
def spec_LevelWays.h0T (a0 : List S72) (v207 : Int) : List (Nat × AV) := [(0, .t (.c (.p false (R 1 e72 z72 a0)))), (5, .t (.c (.p true (.sc (.int .i64 v207)))))]
def spec_LevelWays.h0H (a0 : List S72) (v207 : Int) : List (Nat × Content) := []
def spec_LevelWays.l0 : Nat → List S72 → Int → Option Bool
  | 0, _, _ => none
  | kq + 1, a0, v207 => if v207 < (a0.length : Int) then (if 0 ≤ v207 then (if (((rdD z72 a0 v207).f0).length : Int) = (((rdD z72 a0 0).f0).length : Int) then (spec_LevelWays.l0 kq a0 (w64 (v207 + 1))) else (some false)) else none) else (some true)
def spec_LevelWays.f (k : Nat) (a0 : List S72) (a1 : Int) : Option Bool := (spec_l01In.f (a0.length : Int) 1 10).bind fun t206 => if t206 = true then (if a1 < 0 then (some false) else (if 0 < (a0.length : Int) then (if (w64 ((((rdD z72 a0 0).f0).length : Int) - 1)) ≤ a1 then (some false) else (spec_LevelWays.l0 k a0 0)) else none)) else (some false)
theorem spec_LevelWays.go : Callable Tryz.prog 206 := ⟨_, Tryz.func206, by kernel_rfl, rfl⟩
theorem spec_LevelWays.ok (k : Nat) (a0 : List S72) (a1 : Int) (r : Bool) (h : spec_LevelWays.f k a0 a1 = some r) : VCalls Tryz.prog 206 [.c (R 1 e72 z72 a0), .c (.sc (.int .i64 a1))] [.c (.p (.sc (.bool r)))] := by
  unfold spec_LevelWays.f at h
  refine VCalls.of (fn := Tryz.f206) (N := 42) Tryz.func206 rfl rfl (fun w0 => ?_)
  obtain ⟨t206, g594, h⟩ := bindN h
  let C594 := mkCon (spec_l01In.ok (a0.length : Int) 1 10 t206 g594) spec_l01In.go
  by_cases c595 : t206 = true
  · replace h := (if_pos c595).symm.trans h
    by_cases c596 : a1 < 0
    · replace h := (if_pos c596).symm.trans h
      cases h
      exact byRet MX Tryz.func206 1000 [.call C594, .dec 10 false, .dec 14 true, .b true, .fin] (oa (sc_ C594) (o1 (bnf c595) (o1 (decide_eq_true c596) (o1 (rfl : true = true) on)))) (by kernel_rfl)
    · replace h := (if_neg c596).symm.trans h
      obtain ⟨c597, h⟩ := ifN h
      by_cases c598 : (w64 ((((rdD z72 a0 0).f0).length : Int) - 1)) ≤ a1
      · replace h := (if_pos c598).symm.trans h
        cases h
        exact byRet MX Tryz.func206 1000 [.call C594, .dec 10 false, .dec 14 false, .b true, .fin] (oa (sc_ C594) (o1 (bnf c595) (o1 (decide_eq_false c596) (o1 (by decide : (0 : Int) ≤ 0) (o1 c597 (o1 (decide_eq_true c598) on)))))) (by kernel_rfl)
      · replace h := (if_neg c598).symm.trans h
        have H0 : ∀ (kq : Nat) (v207 : Int), spec_LevelWays.l0 kq a0 v207 = some r → AG Tryz.prog 206 42 [.c (.p (.sc (.bool r)))] w0 (headStk (codeOf Tryz.f206) 0) (mkFS (spec_LevelWays.h0T a0 v207) (spec_LevelWays.h0H a0 v207)) := by
          intro kq
          induction kq with
          | zero => intro v207 h; cases h
          | succ kq ih =>
            intro v207 h
            rw [spec_LevelWays.l0] at h
            by_cases c600 : v207 < (a0.length : Int)
            · replace h := (if_pos c600).symm.trans h
              obtain ⟨c601, h⟩ := ifN h
              by_cases c602 : (((rdD z72 a0 v207).f0).length : Int) = (((rdD z72 a0 0).f0).length : Int)
              · replace h := (if_pos c602).symm.trans h
                exact byHead MX Tryz.func206 1000 [.b true, .b false, .fin] (o1 (decide_eq_true c600) (o1 c601 (o1 c600 (o1 (by decide : (0 : Int) ≤ 0) (o1 c597 (o1 (bnf (decide_eq_true c602)) on)))))) (ih (w64 (v207 + 1)) h) (by kernel_rfl)
              · replace h := (if_neg c602).symm.trans h
                cases h
                exact byRet MX Tryz.func206 1000 [.b true, .b true, .fin] (o1 (decide_eq_true c600) (o1 c601 (o1 c600 (o1 (by decide : (0 : Int) ≤ 0) (o1 c597 (o1 (bnt (decide_eq_false c602)) on)))))) (by kernel_rfl)
            · replace h := (if_neg c600).symm.trans h
              cases h
              exact byRet MX Tryz.func206 1000 [.b false, .fin, .fin] (o1 (decide_eq_false c600) on) (by kernel_rfl)
        exact byHead MX Tryz.func206 1000 [.call C594, .dec 10 false, .dec 14 false, .b false, .fin] (oa (sc_ C594) (o1 (bnf c595) (o1 (decide_eq_false c596) (o1 (by decide : (0 : Int) ≤ 0) (o1 c597 (o1 (decide_eq_false c598) on)))))) (H0 k 0 h) (by kernel_rfl)
  · replace h := (if_neg c595).symm.trans h
    cases h
    exact byRet MX Tryz.func206 1000 [.call C594, .dec 10 true, .b true, .fin] (oa (sc_ C594) (o1 (bnt (eqf c595)) (o1 (rfl : true = true) on))) (by kernel_rfl)
end Go.Proofs.YtoaknaceaghclaaGreat.V
