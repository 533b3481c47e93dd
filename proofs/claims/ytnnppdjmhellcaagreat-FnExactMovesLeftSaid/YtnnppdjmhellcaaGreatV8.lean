/- What each Go function computes, and that the machine does so: printed by a program of this session (avgen.py). -/
import Derived.Test.YtnnppdjmhellcaaGreatV7
namespace Go.Proofs.YtnnppdjmhellcaaGreat.V
open Go Go.Av Go.Proofs
set_option linter.unusedVariables false
set_option maxRecDepth 100000
/-! ### slices_ContainsFunc_impl_Job_impl_Job_3: function 47 -/
def slices_ContainsFunc_impl_Job_impl_Job_3.f (k : Nat) (a0 : List S69) (p1 : S69 → Option Bool) : Option Bool := (slices_IndexFunc_impl_Job_impl_Job_3.f k a0 p1).bind fun t453 => some (decide (0 ≤ t453))
theorem slices_ContainsFunc_impl_Job_impl_Job_3.go : Callable Tryz.prog 47 := ⟨_, Tryz.func47, by kernel_rfl, rfl⟩
theorem slices_ContainsFunc_impl_Job_impl_Job_3.ok (k : Nat) (a0 : List S69) (p1 : S69 → Option Bool) (gi1 : FuncId) (u1_0_0 u1_0_1 u1_0_2 : V) (hp1 : ∀ x0 r, p1 x0 = some r → VCalls Tryz.prog gi1 [.agg (e69 x0), .ptr [u1_0_0, u1_0_1, u1_0_2]] [.c (.p (.sc (.bool r)))]) (go1 : Callable Tryz.prog gi1) (r : Bool) (h : slices_ContainsFunc_impl_Job_impl_Job_3.f k a0 p1 = some r) : VCalls Tryz.prog 47 [.c (R 3 e69 z69 a0), .fn gi1 [[u1_0_0, u1_0_1, u1_0_2]]] [.c (.p (.sc (.bool r)))] := by
  unfold slices_ContainsFunc_impl_Job_impl_Job_3.f at h
  refine VCalls.of (fn := Tryz.f47) (N := 9) Tryz.func47 rfl rfl (fun w0 => ?_)
  obtain ⟨t453, g1414, h⟩ := bindN h
  let C1414 := mkCon (slices_IndexFunc_impl_Job_impl_Job_3.ok k a0 p1 gi1 u1_0_0 u1_0_1 u1_0_2 hp1 go1 t453 g1414) slices_IndexFunc_impl_Job_impl_Job_3.go
  cases h
  exact byRet MX Tryz.func47 1000 [.call C1414, .fin] (oa (sc_ C1414) on) (by kernel_rfl)

/-! ### impl_isJob: function 128 -/
def impl_isJob.f (k : Nat) (a0 : S48) (a1 : Int) (a2 : Int) : Option Bool := if 0 ≤ a1 then (if a1 < (a0.f6.length : Int) then (if a1 < (a0.f5.f2.length : Int) then ((impl_RobotAt.f k a0.f1 ((rdD z69 a0.f6 a1).f0)).bind fun t449 => if t449 < 0 then (some false) else (if 0 ≤ t449 then (if t449 < (a0.f1.length : Int) then (if (rdD z71 a0.f1 t449).f3 = true then (some false) else (if (rdD z69 a0.f6 a1).f1 < 0 then (some false) else (if a0.f5.f0 < (rdD z69 a0.f6 a1).f1 then (some false) else (if (w64 (a2 + 1)) < (rdD z69 a0.f6 a1).f1 then (some false) else (if a1 ≤ (a0.f6.length : Int) then ((slices_ContainsFunc_impl_Job_impl_Job_3.f k ((a0.f6.drop (0 : Int).toNat).take (a1.toNat - (0 : Int).toNat)) (fun x1406 => impl_isJob_1.f x1406 (rdD z69 a0.f6 a1))).bind fun t454 => if t454 = true then (some false) else (if 0 ≤ (rdD z69 a0.f6 a1).f1 then (if (rdD z69 a0.f6 a1).f1 < (((rdD z65 a0.f5.f2 a1).f0).length : Int) then (if (rdD z71 a0.f1 t449).f1 = (rdD 0 ((rdD z65 a0.f5.f2 a1).f0) ((rdD z69 a0.f6 a1).f1)) then (if (rdD z69 a0.f6 a1).f2 = true then (if (rdD z69 a0.f6 a1).f1 < a0.f5.f0 then (if 0 ≤ (w64 ((rdD z69 a0.f6 a1).f1 + 1)) then (if (w64 ((rdD z69 a0.f6 a1).f1 + 1)) < (((rdD z65 a0.f5.f2 a1).f0).length : Int) then (some (decide ((rdD z71 a0.f1 t449).f2 = (rdD 0 ((rdD z65 a0.f5.f2 a1).f0) (w64 ((rdD z69 a0.f6 a1).f1 + 1)))))) else none) else none) else (some false)) else (some (decide ((rdD z71 a0.f1 t449).f2 = (-1))))) else (some false)) else none) else none)) else none))))) else none) else none)) else none) else none) else none
theorem impl_isJob.go : Callable Tryz.prog 128 := ⟨_, Tryz.func128, by kernel_rfl, rfl⟩
theorem impl_isJob.ok (k : Nat) (a0 : S48) (a1 : Int) (a2 : Int) (r : Bool) (h : impl_isJob.f k a0 a1 a2 = some r) : VCalls Tryz.prog 128 [.agg (e48 a0), .c (.sc (.int .i64 a1)), .c (.sc (.int .i64 a2))] [.c (.p (.sc (.bool r)))] := by
  unfold impl_isJob.f at h
  refine VCalls.of (fn := Tryz.f128) (N := 107) Tryz.func128 rfl rfl (fun w0 => ?_)
  obtain ⟨c1385, h⟩ := ifN h
  obtain ⟨c1386, h⟩ := ifN h
  obtain ⟨c1387, h⟩ := ifN h
  obtain ⟨t449, g1397, h⟩ := bindN h
  let C1397 := mkCon (impl_RobotAt.ok k a0.f1 ((rdD z69 a0.f6 a1).f0) t449 g1397) impl_RobotAt.go
  by_cases c1398 : t449 < 0
  · replace h := (if_pos c1398).symm.trans h
    cases h
    exact byRet MX Tryz.func128 1000 [.call C1397, .dec 29 true, .b true, .fin] (o1 c1385 (o1 c1386 (o1 c1385 (o1 c1387 (oa (sc_ C1397) (o1 (decide_eq_true c1398) (o1 (rfl : true = true) on))))))) (by kernel_rfl)
  · replace h := (if_neg c1398).symm.trans h
    obtain ⟨c1399, h⟩ := ifN h
    obtain ⟨c1400, h⟩ := ifN h
    by_cases c1401 : (rdD z71 a0.f1 t449).f3 = true
    · replace h := (if_pos c1401).symm.trans h
      cases h
      exact byRet MX Tryz.func128 1000 [.call C1397, .dec 29 false, .dec 37 true, .b true, .fin] (o1 c1385 (o1 c1386 (o1 c1385 (o1 c1387 (oa (sc_ C1397) (o1 (decide_eq_false c1398) (o1 c1399 (o1 c1400 (o1 c1401 (o1 (rfl : true = true) on)))))))))) (by kernel_rfl)
    · replace h := (if_neg c1401).symm.trans h
      by_cases c1402 : (rdD z69 a0.f6 a1).f1 < 0
      · replace h := (if_pos c1402).symm.trans h
        cases h
        exact byRet MX Tryz.func128 1000 [.call C1397, .dec 29 false, .dec 37 false, .dec 42 true, .b true, .fin] (o1 c1385 (o1 c1386 (o1 c1385 (o1 c1387 (oa (sc_ C1397) (o1 (decide_eq_false c1398) (o1 c1399 (o1 c1400 (o1 (eqf c1401) (o1 (decide_eq_true c1402) (o1 (rfl : true = true) on))))))))))) (by kernel_rfl)
      · replace h := (if_neg c1402).symm.trans h
        by_cases c1403 : a0.f5.f0 < (rdD z69 a0.f6 a1).f1
        · replace h := (if_pos c1403).symm.trans h
          cases h
          exact byRet MX Tryz.func128 1000 [.call C1397, .dec 29 false, .dec 37 false, .dec 42 false, .dec 50 true, .b true, .fin] (o1 c1385 (o1 c1386 (o1 c1385 (o1 c1387 (oa (sc_ C1397) (o1 (decide_eq_false c1398) (o1 c1399 (o1 c1400 (o1 (eqf c1401) (o1 (decide_eq_false c1402) (o1 (decide_eq_true c1403) (o1 (rfl : true = true) on)))))))))))) (by kernel_rfl)
        · replace h := (if_neg c1403).symm.trans h
          by_cases c1404 : (w64 (a2 + 1)) < (rdD z69 a0.f6 a1).f1
          · replace h := (if_pos c1404).symm.trans h
            cases h
            exact byRet MX Tryz.func128 1000 [.call C1397, .dec 29 false, .dec 37 false, .dec 42 false, .dec 50 false, .b true, .fin] (o1 c1385 (o1 c1386 (o1 c1385 (o1 c1387 (oa (sc_ C1397) (o1 (decide_eq_false c1398) (o1 c1399 (o1 c1400 (o1 (eqf c1401) (o1 (decide_eq_false c1402) (o1 (decide_eq_false c1403) (o1 (decide_eq_true c1404) on)))))))))))) (by kernel_rfl)
          · replace h := (if_neg c1404).symm.trans h
            obtain ⟨c1405, h⟩ := ifN h
            obtain ⟨t454, g1415, h⟩ := bindN h
            let C1415 := mkCon (slices_ContainsFunc_impl_Job_impl_Job_3.ok k ((a0.f6.drop (0 : Int).toNat).take (a1.toNat - (0 : Int).toNat)) (fun x1406 => impl_isJob_1.f x1406 (rdD z69 a0.f6 a1)) 146 (.sc (.int .i64 ((rdD z69 a0.f6 a1).f0))) (.sc (.int .i64 ((rdD z69 a0.f6 a1).f1))) (.sc (.bool ((rdD z69 a0.f6 a1).f2))) (fun x1406 r h => impl_isJob_1.ok x1406 (rdD z69 a0.f6 a1) r h) impl_isJob_1.go t454 g1415) slices_ContainsFunc_impl_Job_impl_Job_3.go
            by_cases c1416 : t454 = true
            · replace h := (if_pos c1416).symm.trans h
              cases h
              exact byRet MX Tryz.func128 1000 [.call C1397, .dec 29 false, .dec 37 false, .dec 42 false, .dec 50 false, .b false, .cst 60 (R 3 e69 z69 ((a0.f6.drop (0 : Int).toNat).take (a1.toNat - (0 : Int).toNat))), .call C1415, .dec 63 true, .b true, .fin] (o1 c1385 (o1 c1386 (o1 c1385 (o1 c1387 (oa (sc_ C1397) (o1 (decide_eq_false c1398) (o1 c1399 (o1 c1400 (o1 (eqf c1401) (o1 (decide_eq_false c1402) (o1 (decide_eq_false c1403) (o1 (decide_eq_false c1404) (o1 (by decide : (0 : Int) ≤ 0) (o1 c1385 (o1 c1405 (o1 (VE.cut (z := 3) (e := e69) (d := z69) a0.f6 (n := a0.f6.length) (lo := 0) (hi := a1) rfl (by decide : (0 : Int) ≤ 0) c1385 c1405) (oa (sc_ C1415) (o1 c1416 (o1 (rfl : true = true) on))))))))))))))))))) (by kernel_rfl)
            · replace h := (if_neg c1416).symm.trans h
              obtain ⟨c1417, h⟩ := ifN h
              obtain ⟨c1418, h⟩ := ifN h
              by_cases c1419 : (rdD z71 a0.f1 t449).f1 = (rdD 0 ((rdD z65 a0.f5.f2 a1).f0) ((rdD z69 a0.f6 a1).f1))
              · replace h := (if_pos c1419).symm.trans h
                by_cases c1420 : (rdD z69 a0.f6 a1).f2 = true
                · replace h := (if_pos c1420).symm.trans h
                  by_cases c1421 : (rdD z69 a0.f6 a1).f1 < a0.f5.f0
                  · replace h := (if_pos c1421).symm.trans h
                    obtain ⟨c1422, h⟩ := ifN h
                    obtain ⟨c1423, h⟩ := ifN h
                    cases h
                    exact byRet MX Tryz.func128 1000 [.call C1397, .dec 29 false, .dec 37 false, .dec 42 false, .dec 50 false, .b false, .cst 60 (R 3 e69 z69 ((a0.f6.drop (0 : Int).toNat).take (a1.toNat - (0 : Int).toNat))), .call C1415, .dec 63 false, .b false, .b true, .dec 85 true, .fin] (o1 c1385 (o1 c1386 (o1 c1385 (o1 c1387 (oa (sc_ C1397) (o1 (decide_eq_false c1398) (o1 c1399 (o1 c1400 (o1 (eqf c1401) (o1 (decide_eq_false c1402) (o1 (decide_eq_false c1403) (o1 (decide_eq_false c1404) (o1 (by decide : (0 : Int) ≤ 0) (o1 c1385 (o1 c1405 (o1 (VE.cut (z := 3) (e := e69) (d := z69) a0.f6 (n := a0.f6.length) (lo := 0) (hi := a1) rfl (by decide : (0 : Int) ≤ 0) c1385 c1405) (oa (sc_ C1415) (o1 (eqf c1416) (o1 c1399 (o1 c1400 (o1 c1417 (o1 c1418 (o1 (bnf (decide_eq_true c1419)) (o1 c1420 (o1 (decide_eq_true c1421) (o1 c1399 (o1 c1400 (o1 c1422 (o1 c1423 on))))))))))))))))))))))))))))) (by kernel_rfl)
                  · replace h := (if_neg c1421).symm.trans h
                    cases h
                    exact byRet MX Tryz.func128 1000 [.call C1397, .dec 29 false, .dec 37 false, .dec 42 false, .dec 50 false, .b false, .cst 60 (R 3 e69 z69 ((a0.f6.drop (0 : Int).toNat).take (a1.toNat - (0 : Int).toNat))), .call C1415, .dec 63 false, .b false, .b true, .dec 85 false, .fin] (o1 c1385 (o1 c1386 (o1 c1385 (o1 c1387 (oa (sc_ C1397) (o1 (decide_eq_false c1398) (o1 c1399 (o1 c1400 (o1 (eqf c1401) (o1 (decide_eq_false c1402) (o1 (decide_eq_false c1403) (o1 (decide_eq_false c1404) (o1 (by decide : (0 : Int) ≤ 0) (o1 c1385 (o1 c1405 (o1 (VE.cut (z := 3) (e := e69) (d := z69) a0.f6 (n := a0.f6.length) (lo := 0) (hi := a1) rfl (by decide : (0 : Int) ≤ 0) c1385 c1405) (oa (sc_ C1415) (o1 (eqf c1416) (o1 c1399 (o1 c1400 (o1 c1417 (o1 c1418 (o1 (bnf (decide_eq_true c1419)) (o1 c1420 (o1 (decide_eq_false c1421) on))))))))))))))))))))))))) (by kernel_rfl)
                · replace h := (if_neg c1420).symm.trans h
                  cases h
                  exact byRet MX Tryz.func128 1000 [.call C1397, .dec 29 false, .dec 37 false, .dec 42 false, .dec 50 false, .b false, .cst 60 (R 3 e69 z69 ((a0.f6.drop (0 : Int).toNat).take (a1.toNat - (0 : Int).toNat))), .call C1415, .dec 63 false, .b false, .b false, .fin] (o1 c1385 (o1 c1386 (o1 c1385 (o1 c1387 (oa (sc_ C1397) (o1 (decide_eq_false c1398) (o1 c1399 (o1 c1400 (o1 (eqf c1401) (o1 (decide_eq_false c1402) (o1 (decide_eq_false c1403) (o1 (decide_eq_false c1404) (o1 (by decide : (0 : Int) ≤ 0) (o1 c1385 (o1 c1405 (o1 (VE.cut (z := 3) (e := e69) (d := z69) a0.f6 (n := a0.f6.length) (lo := 0) (hi := a1) rfl (by decide : (0 : Int) ≤ 0) c1385 c1405) (oa (sc_ C1415) (o1 (eqf c1416) (o1 c1399 (o1 c1400 (o1 c1417 (o1 c1418 (o1 (bnf (decide_eq_true c1419)) (o1 (eqf c1420) (o1 c1399 (o1 c1400 on)))))))))))))))))))))))))) (by kernel_rfl)
              · replace h := (if_neg c1419).symm.trans h
                cases h
                exact byRet MX Tryz.func128 1000 [.call C1397, .dec 29 false, .dec 37 false, .dec 42 false, .dec 50 false, .b false, .cst 60 (R 3 e69 z69 ((a0.f6.drop (0 : Int).toNat).take (a1.toNat - (0 : Int).toNat))), .call C1415, .dec 63 false, .b true, .fin] (o1 c1385 (o1 c1386 (o1 c1385 (o1 c1387 (oa (sc_ C1397) (o1 (decide_eq_false c1398) (o1 c1399 (o1 c1400 (o1 (eqf c1401) (o1 (decide_eq_false c1402) (o1 (decide_eq_false c1403) (o1 (decide_eq_false c1404) (o1 (by decide : (0 : Int) ≤ 0) (o1 c1385 (o1 c1405 (o1 (VE.cut (z := 3) (e := e69) (d := z69) a0.f6 (n := a0.f6.length) (lo := 0) (hi := a1) rfl (by decide : (0 : Int) ≤ 0) c1385 c1405) (oa (sc_ C1415) (o1 (eqf c1416) (o1 c1399 (o1 c1400 (o1 c1417 (o1 c1418 (o1 (bnt (decide_eq_false c1419)) on))))))))))))))))))))))) (by kernel_rfl)

/-! ### impl_jobsOk: function 88 -/
def impl_jobsOk.h0T (a1 : Bool) (t444 : Int) (a0 : S48) (v456 : Int) : List (Nat × AV) := [(1, .t (.c (.p false (.sc (.bool a1))))), (2, .ptr 128 0), (5, .ptr 320 0), (6, .t (.c (.p true (.sc (.int .i64 t444))))), (70, .t (.c (.p true (.sc (.int .i64 (a0.f6.length : Int)))))), (71, .t (.c (.p true (.sc (.int .i64 v456)))))]
def impl_jobsOk.h0H (a1 : Bool) (t444 : Int) (a0 : S48) (v456 : Int) : List (Nat × Content) := [(128, .box 48 [.p false (.sc (.int .i64 a0.f0.f0.f0)), .p false (.sc (.int .i64 a0.f0.f0.f1)), .p false (.sc (.string a0.f0.f0.f2)), .p false (.sc (.int .i64 a0.f0.f1)), .p false (.sc (.int .i64 a0.f0.f2)), .p false (.sc (.int .i64 a0.f0.f3)), .p false (.sc (.int .i64 a0.f0.f4)), .p false (R 4 e71 z71 a0.f1), .p false (.sc (.int .i64 a0.f2.f0)), .p false (.sc (.int .i64 a0.f2.f1)), .p false (R 1 (eI .i64) 0 a0.f2.f2), .p false (.sc (.int .i64 a0.f3)), .p false (.sc (.bool a0.f4)), .p false (.sc (.int .i64 a0.f5.f0)), .p false (.sc (.int .i64 a0.f5.f1)), .p false (R 1 e65 z65 a0.f5.f2), .p false (R 3 e69 z69 a0.f6), .p false (R 1 (eI .i64) 0 a0.f7)]), (320, .box 45 [.p false (.sc (.int .i64 a0.f5.f0)), .p false (.sc (.int .i64 a0.f5.f1)), .p false (R 1 e65 z65 a0.f5.f2)])]
def impl_jobsOk.l0 : Nat → S48 → Int → Bool → Int → Option Bool
  | 0, _, _, _, _ => none
  | kq + 1, a0, t444, a1, v456 => if v456 < (a0.f6.length : Int) then ((impl_isJob.f kq a0 v456 t444).bind fun t457 => if t457 = true then (impl_jobsOk.l0 kq a0 t444 a1 (w64 (v456 + 1))) else (some false)) else (if a1 = true then (some true) else (some (decide (t444 < a0.f5.f0))))
def impl_jobsOk.f (k : Nat) (a0 : S48) (a1 : Bool) : Option Bool := if a0.f4 = true then (if a0.f5.f0 < 0 then (some false) else (if 20 < a0.f5.f0 then (some false) else (if (a0.f6.length : Int) < 1 then (some false) else (if 10 < (a0.f6.length : Int) then (some false) else (if (a0.f6.length : Int) = (a0.f5.f2.length : Int) then ((slices_ContainsFunc_impl_Way_impl_Way_3.f k a0.f5.f2 (fun x1344 => impl_jobsOk_1.f x1344 a0.f5)).bind fun t426 => if t426 = true then (some false) else ((impl_LayerOf.f k a0).bind fun t444 => impl_jobsOk.l0 k a0 t444 a1 0)) else (some false)))))) else (if a0.f5.f0 = 0 then (if a0.f5.f1 = 0 then (if (a0.f5.f2.length : Int) = 0 then (some (decide ((a0.f6.length : Int) = 0))) else (some false)) else (some false)) else (some false))
theorem impl_jobsOk.go : Callable Tryz.prog 88 := ⟨_, Tryz.func88, by kernel_rfl, rfl⟩
theorem impl_jobsOk.ok (k : Nat) (a0 : S48) (a1 : Bool) (r : Bool) (h : impl_jobsOk.f k a0 a1 = some r) : VCalls Tryz.prog 88 [.agg (e48 a0), .c (.sc (.bool a1))] [.c (.p (.sc (.bool r)))] := by
  unfold impl_jobsOk.f at h
  refine VCalls.of (fn := Tryz.f88) (N := 87) Tryz.func88 rfl rfl (fun w0 => ?_)
  by_cases c1338 : a0.f4 = true
  · replace h := (if_pos c1338).symm.trans h
    by_cases c1339 : a0.f5.f0 < 0
    · replace h := (if_pos c1339).symm.trans h
      cases h
      exact byRet MX Tryz.func88 1000 [.b false, .dec 36 true, .b true, .fin] (o1 (bnf c1338) (o1 (decide_eq_true c1339) (o1 (rfl : true = true) on))) (by kernel_rfl)
    · replace h := (if_neg c1339).symm.trans h
      by_cases c1340 : 20 < a0.f5.f0
      · replace h := (if_pos c1340).symm.trans h
        cases h
        exact byRet MX Tryz.func88 1000 [.b false, .dec 36 false, .dec 41 true, .b true, .fin] (o1 (bnf c1338) (o1 (decide_eq_false c1339) (o1 (decide_eq_true c1340) (o1 (rfl : true = true) on)))) (by kernel_rfl)
      · replace h := (if_neg c1340).symm.trans h
        by_cases c1341 : (a0.f6.length : Int) < 1
        · replace h := (if_pos c1341).symm.trans h
          cases h
          exact byRet MX Tryz.func88 1000 [.b false, .dec 36 false, .dec 41 false, .dec 47 true, .b true, .fin] (o1 (bnf c1338) (o1 (decide_eq_false c1339) (o1 (decide_eq_false c1340) (o1 (decide_eq_true c1341) (o1 (rfl : true = true) on))))) (by kernel_rfl)
        · replace h := (if_neg c1341).symm.trans h
          by_cases c1342 : 10 < (a0.f6.length : Int)
          · replace h := (if_pos c1342).symm.trans h
            cases h
            exact byRet MX Tryz.func88 1000 [.b false, .dec 36 false, .dec 41 false, .dec 47 false, .dec 53 true, .b true, .fin] (o1 (bnf c1338) (o1 (decide_eq_false c1339) (o1 (decide_eq_false c1340) (o1 (decide_eq_false c1341) (o1 (decide_eq_true c1342) (o1 (rfl : true = true) on)))))) (by kernel_rfl)
          · replace h := (if_neg c1342).symm.trans h
            by_cases c1343 : (a0.f6.length : Int) = (a0.f5.f2.length : Int)
            · replace h := (if_pos c1343).symm.trans h
              obtain ⟨t426, g1353, h⟩ := bindN h
              let C1353 := mkCon (slices_ContainsFunc_impl_Way_impl_Way_3.ok k a0.f5.f2 (fun x1344 => impl_jobsOk_1.f x1344 a0.f5) 126 (.sc (.int .i64 a0.f5.f0)) (.sc (.int .i64 a0.f5.f1)) (R 1 e65 z65 a0.f5.f2) (fun x1344 r h => impl_jobsOk_1.ok x1344 a0.f5 r h) impl_jobsOk_1.go t426 g1353) slices_ContainsFunc_impl_Way_impl_Way_3.go
              by_cases c1354 : t426 = true
              · replace h := (if_pos c1354).symm.trans h
                cases h
                exact byRet MX Tryz.func88 1000 [.b false, .dec 36 false, .dec 41 false, .dec 47 false, .dec 53 false, .b false, .call C1353, .b true, .fin] (o1 (bnf c1338) (o1 (decide_eq_false c1339) (o1 (decide_eq_false c1340) (o1 (decide_eq_false c1341) (o1 (decide_eq_false c1342) (o1 (bnf (decide_eq_true c1343)) (oa (sc_ C1353) (o1 c1354 on)))))))) (by kernel_rfl)
              · replace h := (if_neg c1354).symm.trans h
                obtain ⟨t444, g1383, h⟩ := bindN h
                let C1383 := mkCon (impl_LayerOf.ok k a0 t444 g1383) impl_LayerOf.go
                have H0 : ∀ (kq : Nat) (v456 : Int), impl_jobsOk.l0 kq a0 t444 a1 v456 = some r → AG Tryz.prog 88 87 [.c (.p (.sc (.bool r)))] w0 (headStk (codeOf Tryz.f88) 0) (mkFS (impl_jobsOk.h0T a1 t444 a0 v456) (impl_jobsOk.h0H a1 t444 a0 v456)) := by
                  intro kq
                  induction kq with
                  | zero => intro v456 h; cases h
                  | succ kq ih =>
                    intro v456 h
                    rw [impl_jobsOk.l0] at h
                    by_cases c1426 : v456 < (a0.f6.length : Int)
                    · replace h := (if_pos c1426).symm.trans h
                      obtain ⟨t457, g1427, h⟩ := bindN h
                      let C1427 := mkCon (impl_isJob.ok kq a0 v456 t444 t457 g1427) impl_isJob.go
                      by_cases c1428 : t457 = true
                      · replace h := (if_pos c1428).symm.trans h
                        exact byHead MX Tryz.func88 1000 [.b true, .call C1427, .b false, .fin] (o1 (decide_eq_true c1426) (oa (sc_ C1427) (o1 (bnf c1428) on))) (ih (w64 (v456 + 1)) h) (by kernel_rfl)
                      · replace h := (if_neg c1428).symm.trans h
                        cases h
                        exact byRet MX Tryz.func88 1000 [.b true, .call C1427, .b true, .fin] (o1 (decide_eq_true c1426) (oa (sc_ C1427) (o1 (bnt (eqf c1428)) on))) (by kernel_rfl)
                    · replace h := (if_neg c1426).symm.trans h
                      by_cases c1429 : a1 = true
                      · replace h := (if_pos c1429).symm.trans h
                        cases h
                        exact byRet MX Tryz.func88 1000 [.b false, .fin, .dec 81 true, .fin] (o1 (decide_eq_false c1426) (o1 c1429 on)) (by kernel_rfl)
                      · replace h := (if_neg c1429).symm.trans h
                        cases h
                        exact byRet MX Tryz.func88 1000 [.b false, .fin, .dec 81 false, .fin] (o1 (decide_eq_false c1426) (o1 (eqf c1429) on)) (by kernel_rfl)
                exact byHead MX Tryz.func88 1000 [.b false, .dec 36 false, .dec 41 false, .dec 47 false, .dec 53 false, .b false, .call C1353, .b false, .call C1383, .fin] (o1 (bnf c1338) (o1 (decide_eq_false c1339) (o1 (decide_eq_false c1340) (o1 (decide_eq_false c1341) (o1 (decide_eq_false c1342) (o1 (bnf (decide_eq_true c1343)) (oa (sc_ C1353) (o1 (eqf c1354) (oa (sc_ C1383) on))))))))) (H0 k 0 h) (by kernel_rfl)
            · replace h := (if_neg c1343).symm.trans h
              cases h
              exact byRet MX Tryz.func88 1000 [.b false, .dec 36 false, .dec 41 false, .dec 47 false, .dec 53 false, .b true, .fin] (o1 (bnf c1338) (o1 (decide_eq_false c1339) (o1 (decide_eq_false c1340) (o1 (decide_eq_false c1341) (o1 (decide_eq_false c1342) (o1 (bnt (decide_eq_false c1343)) on)))))) (by kernel_rfl)
  · replace h := (if_neg c1338).symm.trans h
    by_cases c1430 : a0.f5.f0 = 0
    · replace h := (if_pos c1430).symm.trans h
      by_cases c1431 : a0.f5.f1 = 0
      · replace h := (if_pos c1431).symm.trans h
        by_cases c1432 : (a0.f5.f2.length : Int) = 0
        · replace h := (if_pos c1432).symm.trans h
          cases h
          exact byRet MX Tryz.func88 1000 [.b true, .dec 16 true, .dec 21 true, .dec 27 true, .fin] (o1 (bnt (eqf c1338)) (o1 (decide_eq_true c1430) (o1 (decide_eq_true c1431) (o1 (decide_eq_true c1432) on)))) (by kernel_rfl)
        · replace h := (if_neg c1432).symm.trans h
          cases h
          exact byRet MX Tryz.func88 1000 [.b true, .dec 16 true, .dec 21 true, .dec 27 false, .fin] (o1 (bnt (eqf c1338)) (o1 (decide_eq_true c1430) (o1 (decide_eq_true c1431) (o1 (decide_eq_false c1432) on)))) (by kernel_rfl)
      · replace h := (if_neg c1431).symm.trans h
        cases h
        exact byRet MX Tryz.func88 1000 [.b true, .dec 16 true, .dec 21 false, .fin] (o1 (bnt (eqf c1338)) (o1 (decide_eq_true c1430) (o1 (decide_eq_false c1431) on))) (by kernel_rfl)
    · replace h := (if_neg c1430).symm.trans h
      cases h
      exact byRet MX Tryz.func88 1000 [.b true, .dec 16 false, .fin] (o1 (bnt (eqf c1338)) (o1 (decide_eq_false c1430) on)) (by kernel_rfl)

/-! ### impl_JobsOk: function 40 -/
def impl_JobsOk.f (k : Nat) (a0 : S48) : Option Bool := (impl_jobsOk.f k a0 false).bind fun t458 => some t458
theorem impl_JobsOk.go : Callable Tryz.prog 40 := ⟨_, Tryz.func40, by kernel_rfl, rfl⟩
theorem impl_JobsOk.ok (k : Nat) (a0 : S48) (r : Bool) (h : impl_JobsOk.f k a0 = some r) : VCalls Tryz.prog 40 [.agg (e48 a0)] [.c (.p (.sc (.bool r)))] := by
  unfold impl_JobsOk.f at h
  refine VCalls.of (fn := Tryz.f40) (N := 5) Tryz.func40 rfl rfl (fun w0 => ?_)
  obtain ⟨t458, g1433, h⟩ := bindN h
  let C1433 := mkCon (impl_jobsOk.ok k a0 false t458 g1433) impl_jobsOk.go
  cases h
  exact byRet MX Tryz.func40 1000 [.call C1433, .fin] (oa (sc_ C1433) on) (by kernel_rfl)

/-! ### impl_areFree_1: function 89 -/
def impl_areFree_1.f (a0 : Int) (a1 : S38) : Option Bool := (impl_isFree.f a1 a0).bind fun t461 => some (!t461)
theorem impl_areFree_1.go : Callable Tryz.prog 89 := ⟨_, Tryz.func89, by kernel_rfl, rfl⟩
theorem impl_areFree_1.ok (a0 : Int) (a1 : S38) (r : Bool) (h : impl_areFree_1.f a0 a1 = some r) : VCalls Tryz.prog 89 [.c (.sc (.int .i64 a0)), .ptr [.sc (.int .i64 a1.f0), .sc (.int .i64 a1.f1), .sc (.string a1.f2)]] [.c (.p (.sc (.bool r)))] := by
  unfold impl_areFree_1.f at h
  refine VCalls.of (fn := Tryz.f89) (N := 8) Tryz.func89 rfl rfl (fun w0 => ?_)
  obtain ⟨t461, g1438, h⟩ := bindN h
  let C1438 := mkCon (impl_isFree.ok a1 a0 t461 g1438) impl_isFree.go
  cases h
  exact byRet MX Tryz.func89 1000 [.call C1438, .fin] (oa (sc_ C1438) on) (by kernel_rfl)

/-! ### impl_areFree: function 41 -/
def impl_areFree.f (k : Nat) (a0 : S38) (a1 : List Int) : Option Bool := (impl_GridOk.f k a0).bind fun t460 => if t460 = true then ((slices_ContainsFunc_int_int_3.f k a1 (fun x1439 => impl_areFree_1.f x1439 a0)).bind fun t462 => some (!t462)) else (some false)
theorem impl_areFree.go : Callable Tryz.prog 41 := ⟨_, Tryz.func41, by kernel_rfl, rfl⟩
theorem impl_areFree.ok (k : Nat) (a0 : S38) (a1 : List Int) (r : Bool) (h : impl_areFree.f k a0 a1 = some r) : VCalls Tryz.prog 41 [.agg (e38 a0), .c (R 1 (eI .i64) 0 a1)] [.c (.p (.sc (.bool r)))] := by
  unfold impl_areFree.f at h
  refine VCalls.of (fn := Tryz.f41) (N := 13) Tryz.func41 rfl rfl (fun w0 => ?_)
  obtain ⟨t460, g1436, h⟩ := bindN h
  let C1436 := mkCon (impl_GridOk.ok k a0 t460 g1436) impl_GridOk.go
  by_cases c1437 : t460 = true
  · replace h := (if_pos c1437).symm.trans h
    obtain ⟨t462, g1440, h⟩ := bindN h
    let C1440 := mkCon (slices_ContainsFunc_int_int_3.ok k a1 (fun x1439 => impl_areFree_1.f x1439 a0) 89 (.sc (.int .i64 a0.f0)) (.sc (.int .i64 a0.f1)) (.sc (.string a0.f2)) (fun x1439 r h => impl_areFree_1.ok x1439 a0 r h) impl_areFree_1.go t462 g1440) slices_ContainsFunc_int_int_3.go
    cases h
    exact byRet MX Tryz.func41 1000 [.call C1436, .dec 7 true, .call C1440, .fin] (oa (sc_ C1436) (o1 c1437 (oa (sc_ C1440) on))) (by kernel_rfl)
  · replace h := (if_neg c1437).symm.trans h
    cases h
    exact byRet MX Tryz.func41 1000 [.call C1436, .dec 7 false, .fin] (oa (sc_ C1436) (o1 (eqf c1437) on)) (by kernel_rfl)

/-! ### impl_isAscending: function 42 -/
def impl_isAscending.h0T (a0 : List Int) (v464 : Int) : List (Nat × AV) := [(0, .t (.c (.p false (R 1 (eI .i64) 0 a0)))), (3, .t (.c (.p true (.sc (.int .i64 v464)))))]
def impl_isAscending.h0H (a0 : List Int) (v464 : Int) : List (Nat × Content) := []
def impl_isAscending.l0 : Nat → List Int → Int → Option Bool
  | 0, _, _ => none
  | kq + 1, a0, v464 => if v464 < (a0.length : Int) then (if 0 ≤ (w64 (v464 - 1)) then (if (w64 (v464 - 1)) < (a0.length : Int) then (if 0 ≤ v464 then (if (rdD 0 a0 v464) ≤ (rdD 0 a0 (w64 (v464 - 1))) then (some false) else (impl_isAscending.l0 kq a0 (w64 (v464 + 1)))) else none) else none) else none) else (some true)
def impl_isAscending.f (k : Nat) (a0 : List Int) : Option Bool := impl_isAscending.l0 k a0 1
theorem impl_isAscending.go : Callable Tryz.prog 42 := ⟨_, Tryz.func42, by kernel_rfl, rfl⟩
theorem impl_isAscending.ok (k : Nat) (a0 : List Int) (r : Bool) (h : impl_isAscending.f k a0 = some r) : VCalls Tryz.prog 42 [.c (R 1 (eI .i64) 0 a0)] [.c (.p (.sc (.bool r)))] := by
  unfold impl_isAscending.f at h
  refine VCalls.of (fn := Tryz.f42) (N := 20) Tryz.func42 rfl rfl (fun w0 => ?_)
  have H0 : ∀ (kq : Nat) (v464 : Int), impl_isAscending.l0 kq a0 v464 = some r → AG Tryz.prog 42 20 [.c (.p (.sc (.bool r)))] w0 (headStk (codeOf Tryz.f42) 0) (mkFS (impl_isAscending.h0T a0 v464) (impl_isAscending.h0H a0 v464)) := by
    intro kq
    induction kq with
    | zero => intro v464 h; cases h
    | succ kq ih =>
      intro v464 h
      rw [impl_isAscending.l0] at h
      by_cases c1447 : v464 < (a0.length : Int)
      · replace h := (if_pos c1447).symm.trans h
        obtain ⟨c1448, h⟩ := ifN h
        obtain ⟨c1449, h⟩ := ifN h
        obtain ⟨c1450, h⟩ := ifN h
        by_cases c1451 : (rdD 0 a0 v464) ≤ (rdD 0 a0 (w64 (v464 - 1)))
        · replace h := (if_pos c1451).symm.trans h
          cases h
          exact byRet MX Tryz.func42 1000 [.b true, .b true, .fin] (o1 (decide_eq_true c1447) (o1 c1448 (o1 c1449 (o1 c1450 (o1 c1447 (o1 (decide_eq_true c1451) on)))))) (by kernel_rfl)
        · replace h := (if_neg c1451).symm.trans h
          exact byHead MX Tryz.func42 1000 [.b true, .b false, .fin] (o1 (decide_eq_true c1447) (o1 c1448 (o1 c1449 (o1 c1450 (o1 c1447 (o1 (decide_eq_false c1451) on)))))) (ih (w64 (v464 + 1)) h) (by kernel_rfl)
      · replace h := (if_neg c1447).symm.trans h
        cases h
        exact byRet MX Tryz.func42 1000 [.b false, .fin, .fin] (o1 (decide_eq_false c1447) on) (by kernel_rfl)
  exact byHead MX Tryz.func42 1000 [.fin] on (H0 k 1 h) (by kernel_rfl)

/-! ### impl_CellsUsed: function 90 -/
def impl_CellsUsed.h0T (a0 : List S65) (v468 : Int) (v467 : List Int) : List (Nat × AV) := [(3, .t (.c (.h 320192))), (6, .t (.c (.p false (R 1 e65 z65 a0)))), (7, .t (.c (.p true (.sc (.int .i64 (a0.length : Int)))))), (8, .t (.c (.p true (.sc (.int .i64 v468)))))]
def impl_CellsUsed.h0H (a0 : List S65) (v468 : Int) (v467 : List Int) : List (Nat × Content) := [(320192, .row 3 1 v467.length (fun j => (eI .i64) (v467.getD j 0)) true)]
def impl_CellsUsed.l0 : Nat → List S65 → List Int → Int → Option (List Int)
  | 0, _, _, _ => none
  | kq + 1, a0, v467, v468 => if v468 < (a0.length : Int) then (if 0 ≤ v468 then (if (v467.length + ((rdD z65 a0 v468).f0).length) * 8 ≤ 140737488355328 then (impl_CellsUsed.l0 kq a0 (v467 ++ (rdD z65 a0 v468).f0) (w64 (v468 + 1))) else none) else none) else ((AvOrd.impl_ordered.f v467).bind fun t469 => some t469)
def impl_CellsUsed.f (k : Nat) (a0 : List S65) : Option (List Int) := impl_CellsUsed.l0 k a0 ([] : List Int) 0
theorem impl_CellsUsed.go : Callable Tryz.prog 90 := ⟨_, Tryz.func90, by kernel_rfl, rfl⟩
theorem impl_CellsUsed.ok (k : Nat) (a0 : List S65) (r : (List Int)) (h : impl_CellsUsed.f k a0 = some r) : VCalls Tryz.prog 90 [.c (R 1 e65 z65 a0)] [.c (.own 3 1 r.length (fun j => (eI .i64) (r.getD j 0)))] := by
  unfold impl_CellsUsed.f at h
  refine VCalls.of (fn := Tryz.f90) (N := 19) Tryz.func90 rfl rfl (fun w0 => ?_)
  have H0 : ∀ (kq : Nat) (v467 : List Int) (v468 : Int), impl_CellsUsed.l0 kq a0 v467 v468 = some r → AG Tryz.prog 90 19 [.c (.own 3 1 r.length (fun j => (eI .i64) (r.getD j 0)))] w0 (headStk (codeOf Tryz.f90) 0) (mkFS (impl_CellsUsed.h0T a0 v468 v467) (impl_CellsUsed.h0H a0 v468 v467)) := by
    intro kq
    induction kq with
    | zero => intro v467 v468 h; cases h
    | succ kq ih =>
      intro v467 v468 h
      rw [impl_CellsUsed.l0] at h
      by_cases c1463 : v468 < (a0.length : Int)
      · replace h := (if_pos c1463).symm.trans h
        obtain ⟨c1464, h⟩ := ifN h
        obtain ⟨c1465, h⟩ := ifN h
        exact byHead MX Tryz.func90 1000 [.b true, .aft 15, orow 320192 (eI .i64) 0 (v467 ++ (rdD z65 a0 v468).f0), .reg 6, .flat 320192, .fin] (o1 (decide_eq_true c1463) (o1 c1464 (o1 c1463 (o1 c1465 (o1 (GE.app (e := (eI .i64)) (d := 0) v467 ((rdD z65 a0 v468).f0) rfl (fun _ _ => CE.refl _) rfl) (o1 (SC.of (e := (eI .i64)) (d := 0) (v467 ++ (rdD z65 a0 v468).f0) (by intro x; rfl)) on)))))) (ih (v467 ++ (rdD z65 a0 v468).f0) (w64 (v468 + 1)) h) (by kernel_rfl)
      · replace h := (if_neg c1463).symm.trans h
        obtain ⟨t469, g1466, h⟩ := bindN h
        let C1466 := AvOrd.impl_ordered.con v467 t469 g1466
        cases h
        exact byRet MX Tryz.func90 1000 [.b false, .fin, .callM C1466, .aft 18, orow 320192 (eI .i64) 0 r, .fin] (o1 (decide_eq_false c1463) (o1 (rfl : C1466.f = C1466.f) (o1 (rfl : C1466.e = C1466.e) (o1 (AvOrd.sc_in v467) (o1 (AvOrd.sc_out r) on))))) (by kernel_rfl)
  exact byHead MX Tryz.func90 1000 [.fin, .nil 3 320192 3 1, orow 320192 (eI .i64) 0 ([] : List Int)] (o1 (GE.nil (eI .i64) 0) on) (H0 k ([] : List Int) 0 h) (by kernel_rfl)

/-! ### impl_Footprint: function 43 -/
def impl_Footprint.f (k : Nat) (a0 : S48) : Option (List Int) := if a0.f4 = true then ((impl_CellsUsed.f k a0.f5.f2).bind fun t470 => some t470) else (some ([] : List Int))
theorem impl_Footprint.go : Callable Tryz.prog 43 := ⟨_, Tryz.func43, by kernel_rfl, rfl⟩
theorem impl_Footprint.ok (k : Nat) (a0 : S48) (r : (List Int)) (h : impl_Footprint.f k a0 = some r) : VCalls Tryz.prog 43 [.agg (e48 a0)] [.c (.own 3 1 r.length (fun j => (eI .i64) (r.getD j 0)))] := by
  unfold impl_Footprint.f at h
  refine VCalls.of (fn := Tryz.f43) (N := 10) Tryz.func43 rfl rfl (fun w0 => ?_)
  by_cases c1455 : a0.f4 = true
  · replace h := (if_pos c1455).symm.trans h
    obtain ⟨t470, g1467, h⟩ := bindN h
    let C1467 := mkCon (impl_CellsUsed.ok k a0.f5.f2 t470 g1467) impl_CellsUsed.go
    cases h
    exact byRet MX Tryz.func43 1000 [.b false, .call C1467, .fin] (o1 (bnf c1455) (oa (sc_ C1467) on)) (by kernel_rfl)
  · replace h := (if_neg c1455).symm.trans h
    cases h
    exact byRet MX Tryz.func43 1000 [.b true, .fin, .nil 2 384128 3 1, orow 384128 (eI .i64) 0 ([] : List Int)] (o1 (bnt (eqf c1455)) (o1 (GE.nil (eI .i64) 0) on)) (by kernel_rfl)

/-! ### impl_FreeCells: function 106 -/
def impl_FreeCells.h0T (a0 : S38) (v478 : Nat) (v477 : List Int) : List (Nat × AV) := [(1, .ptr 64 0), (3, .t (.c (.h 320192))), (10, .ptr 640 0)]
def impl_FreeCells.h0H (a0 : S38) (v478 : Nat) (v477 : List Int) : List (Nat × Content) := [(64, .box 38 [.p false (.sc (.int .i64 a0.f0)), .p false (.sc (.int .i64 a0.f1)), .p false (.sc (.string a0.f2))]), (640, .iter a0.f2 v478), (320192, .row 3 1 v477.length (fun j => (eI .i64) (v477.getD j 0)) true)]
def impl_FreeCells.l0 : Nat → S38 → List Int → Nat → Option (List Int)
  | 0, _, _, _ => none
  | kq + 1, a0, v477, v478 => if v478 < a0.f2.size then ((impl_isFree.f a0 ((v478 : Nat) : Int)).bind fun t479 => if t479 = true then (if (v477.length + 1) * 8 ≤ 140737488355328 then (impl_FreeCells.l0 kq a0 (v477 ++ [((v478 : Nat) : Int)]) (v478 + (Utf8.decode a0.f2 v478).2)) else none) else (impl_FreeCells.l0 kq a0 v477 (v478 + (Utf8.decode a0.f2 v478).2))) else (some v477)
def impl_FreeCells.f (k : Nat) (a0 : S38) : Option (List Int) := (impl_GridOk.f k a0).bind fun t472 => if t472 = true then (impl_FreeCells.l0 k a0 ([] : List Int) 0) else (some ([] : List Int))
theorem impl_FreeCells.go : Callable Tryz.prog 106 := ⟨_, Tryz.func106, by kernel_rfl, rfl⟩
theorem impl_FreeCells.ok (k : Nat) (a0 : S38) (r : (List Int)) (h : impl_FreeCells.f k a0 = some r) : VCalls Tryz.prog 106 [.agg (e38 a0)] [.c (.own 3 1 r.length (fun j => (eI .i64) (r.getD j 0)))] := by
  unfold impl_FreeCells.f at h
  refine VCalls.of (fn := Tryz.f106) (N := 22) Tryz.func106 rfl rfl (fun w0 => ?_)
  obtain ⟨t472, g1469, h⟩ := bindN h
  let C1469 := mkCon (impl_GridOk.ok k a0 t472 g1469) impl_GridOk.go
  by_cases c1470 : t472 = true
  · replace h := (if_pos c1470).symm.trans h
    have H0 : ∀ (kq : Nat) (v477 : List Int) (v478 : Nat), impl_FreeCells.l0 kq a0 v477 v478 = some r → AG Tryz.prog 106 22 [.c (.own 3 1 r.length (fun j => (eI .i64) (r.getD j 0)))] w0 (headStk (codeOf Tryz.f106) 0) (mkFS (impl_FreeCells.h0T a0 v478 v477) (impl_FreeCells.h0H a0 v478 v477)) := by
      intro kq
      induction kq with
      | zero => intro v477 v478 h; cases h
      | succ kq ih =>
        intro v477 v478 h
        rw [impl_FreeCells.l0] at h
        by_cases c1483 : v478 < a0.f2.size
        · replace h := (if_pos c1483).symm.trans h
          obtain ⟨t479, g1484, h⟩ := bindN h
          let C1484 := mkCon (impl_isFree.ok a0 ((v478 : Nat) : Int) t479 g1484) impl_isFree.go
          by_cases c1485 : t479 = true
          · replace h := (if_pos c1485).symm.trans h
            obtain ⟨c1486, h⟩ := ifN h
            exact byHead MX Tryz.func106 1000 [.dec 11 true, .b true, .call C1484, .b true, rowe 19 (eI .i64) 0 ([((v478 : Nat) : Int)]), .aft 20, orow 320192 (eI .i64) 0 (v477 ++ [((v478 : Nat) : Int)]), .fin] (o1 c1483 (o1 (rfl : true = true) (oa (sc_ C1484) (o1 c1485 (o1 (GE.lit 1 (eI .i64) 0 [((v478 : Nat) : Int)] (by intro x; rfl)) (o1 c1486 (o1 (GE.app (e := (eI .i64)) (d := 0) v477 ([((v478 : Nat) : Int)]) rfl (fun _ _ => CE.refl _) rfl) on))))))) (ih (v477 ++ [((v478 : Nat) : Int)]) (v478 + (Utf8.decode a0.f2 v478).2) h) (by kernel_rfl)
          · replace h := (if_neg c1485).symm.trans h
            exact byHead MX Tryz.func106 1000 [.dec 11 true, .b true, .call C1484, .b false, .fin] (o1 c1483 (o1 (rfl : true = true) (oa (sc_ C1484) (o1 (eqf c1485) on)))) (ih v477 (v478 + (Utf8.decode a0.f2 v478).2) h) (by kernel_rfl)
        · replace h := (if_neg c1483).symm.trans h
          cases h
          exact byRet MX Tryz.func106 1000 [.dec 11 false, .b false, .fin, .fin] (o1 c1483 (o1 (rfl : false = false) on)) (by kernel_rfl)
    exact byHead MX Tryz.func106 1000 [.call C1469, .b false, .fin, .nil 3 320192 3 1, orow 320192 (eI .i64) 0 ([] : List Int)] (oa (sc_ C1469) (o1 (bnf c1470) (o1 (GE.nil (eI .i64) 0) on))) (H0 k ([] : List Int) 0 h) (by kernel_rfl)
  · replace h := (if_neg c1470).symm.trans h
    cases h
    exact byRet MX Tryz.func106 1000 [.call C1469, .b true, .fin, .nil 2 384128 3 1, orow 384128 (eI .i64) 0 ([] : List Int)] (oa (sc_ C1469) (o1 (bnt (eqf c1470)) (o1 (GE.nil (eI .i64) 0) on))) (by kernel_rfl)

/-! ### impl_Walled: function 104 -/
def impl_Walled.h0T (a1 : List Int) (a0 : S38) (v485 : Int) (v484 : List Int) : List (Nat × AV) := [(1, .t (.c (.p false (R 1 (eI .i64) 0 a1)))), (2, .ptr 128 0), (4, .ptr 256 0), (5, .t (.c (.h 832))), (15, .t (.c (.p true (.sc (.int .i64 ((bytesOf a0.f2).length : Int)))))), (16, .t (.c (.p true (.sc (.int .i64 v485)))))]
def impl_Walled.h0H (a1 : List Int) (a0 : S38) (v485 : Int) (v484 : List Int) : List (Nat × Content) := [(128, .box 38 [.p false (.sc (.int .i64 a0.f0)), .p false (.sc (.int .i64 a0.f1)), .p false (.sc (.string a0.f2))]), (256, .box 38 [.p true (.sc (.int .i64 0)), .p true (.sc (.int .i64 0)), .p true (.sc (.string (⟨#[]⟩ : ByteArray)))]), (832, .row 1099511627781 1 v484.length (fun j => (eI .u8) (v484.getD j 0)) true)]
def impl_Walled.l0 : Nat → S38 → List Int → List Int → Int → Option S38
  | 0, _, _, _, _ => none
  | kq + 1, a0, a1, v484, v485 => if v485 < ((bytesOf a0.f2).length : Int) then ((slices_Contains_int_int.f kq a1 v485).bind fun t486 => if t486 = true then (if 0 ≤ v485 then (if v485 < (v484.length : Int) then (impl_Walled.l0 kq a0 a1 (v484.set v485.toNat 35) (w64 (v485 + 1))) else none) else none) else (impl_Walled.l0 kq a0 a1 v484 (w64 (v485 + 1)))) else (if isBytes v484 = true then (some (⟨a0.f0, a0.f1, (strOf v484)⟩ : S38)) else none)
def impl_Walled.f (k : Nat) (a0 : S38) (a1 : List Int) : Option S38 := (impl_GridOk.f k a0).bind fun t480 => if t480 = true then (if a0.f2.size ≤ maxLen then (impl_Walled.l0 k a0 a1 (bytesOf a0.f2) 0) else none) else (some a0)
theorem impl_Walled.go : Callable Tryz.prog 104 := ⟨_, Tryz.func104, by kernel_rfl, rfl⟩
theorem impl_Walled.ok (k : Nat) (a0 : S38) (a1 : List Int) (r : S38) (h : impl_Walled.f k a0 a1 = some r) : VCalls Tryz.prog 104 [.agg (e38 a0), .c (R 1 (eI .i64) 0 a1)] [.agg (r38 r)] := by
  unfold impl_Walled.f at h
  refine VCalls.of (fn := Tryz.f104) (N := 33) Tryz.func104 rfl rfl (fun w0 => ?_)
  obtain ⟨t480, g1487, h⟩ := bindN h
  let C1487 := mkCon (impl_GridOk.ok k a0 t480 g1487) impl_GridOk.go
  by_cases c1488 : t480 = true
  · replace h := (if_pos c1488).symm.trans h
    obtain ⟨c1489, h⟩ := ifN h
    have H0 : ∀ (kq : Nat) (v484 : List Int) (v485 : Int), impl_Walled.l0 kq a0 a1 v484 v485 = some r → AG Tryz.prog 104 33 [.agg (r38 r)] w0 (headStk (codeOf Tryz.f104) 0) (mkFS (impl_Walled.h0T a1 a0 v485 v484) (impl_Walled.h0H a1 a0 v485 v484)) := by
      intro kq
      induction kq with
      | zero => intro v484 v485 h; cases h
      | succ kq ih =>
        intro v484 v485 h
        rw [impl_Walled.l0] at h
        by_cases c1497 : v485 < ((bytesOf a0.f2).length : Int)
        · replace h := (if_pos c1497).symm.trans h
          obtain ⟨t486, g1498, h⟩ := bindN h
          let C1498 := mkCon (slices_Contains_int_int.ok kq a1 v485 t486 g1498) slices_Contains_int_int.go
          by_cases c1499 : t486 = true
          · replace h := (if_pos c1499).symm.trans h
            obtain ⟨c1500, h⟩ := ifN h
            obtain ⟨c1501, h⟩ := ifN h
            exact byHead MX Tryz.func104 1000 [.b true, .call C1498, .b true, .aft 999999, orow 832 (eI .u8) 0 (v484.set v485.toNat 35), .fin] (o1 (decide_eq_true c1497) (oa (sc_ C1498) (o1 c1499 (o1 c1500 (o1 c1501 (o1 (GE.set (e := (eI .u8)) (d := 0) v484 v485.toNat 35 (lt_toNat c1500 c1501) rfl) on)))))) (ih (v484.set v485.toNat 35) (w64 (v485 + 1)) h) (by kernel_rfl)
          · replace h := (if_neg c1499).symm.trans h
            exact byHead MX Tryz.func104 1000 [.b true, .call C1498, .b false, .fin] (o1 (decide_eq_true c1497) (oa (sc_ C1498) (o1 (eqf c1499) on))) (ih v484 (w64 (v485 + 1)) h) (by kernel_rfl)
        · replace h := (if_neg c1497).symm.trans h
          obtain ⟨c1502, h⟩ := ifN h
          cases h
          exact byRet MX Tryz.func104 1000 [.b false, .fin, .cst 31 (.sc (.string (strOf v484))), .fin] (o1 (decide_eq_false c1497) (o1 (ByOk.of c1502) (o1 (VE.str v484) on))) (by kernel_rfl)
    exact byHead MX Tryz.func104 1000 [.call C1487, .b false, rowe 13 (eI .u8) 0 (bytesOf a0.f2), .fin] (oa (sc_ C1487) (o1 (bnf c1488) (o1 c1489 (o1 (GE.bytes a0.f2) on)))) (H0 k (bytesOf a0.f2) 0 h) (by kernel_rfl)
  · replace h := (if_neg c1488).symm.trans h
    cases h
    exact byRet MX Tryz.func104 1000 [.call C1487, .b true, .fin] (oa (sc_ C1487) (o1 (bnt (eqf c1488)) on)) (by kernel_rfl)

/-! ### impl_onlyCells: function 45 -/
def impl_onlyCells.f (k : Nat) (a0 : S38) (a1 : List Int) : Option S38 := (impl_FreeCells.f k a0).bind fun v => (AvDel.del.f a1 v).bind fun u => impl_Walled.f k a0 u
theorem impl_onlyCells.go : Callable Tryz.prog 45 := ⟨_, Tryz.func45, by kernel_rfl, rfl⟩
theorem impl_onlyCells.ok (k : Nat) (a0 : S38) (a1 : List Int) (r : S38) (h : impl_onlyCells.f k a0 a1 = some r) : VCalls Tryz.prog 45 [.agg (e38 a0), .c (R 1 (eI .i64) 0 a1)] [.agg (r38 r)] := by
  unfold impl_onlyCells.f at h
  refine VCalls.of (fn := Tryz.f45) (N := 11) Tryz.func45 rfl rfl (fun w0 => ?_)
  obtain ⟨v, g1, h⟩ := bindN h
  obtain ⟨u, g2, h⟩ := bindN h
  let C1 := mkCon (impl_FreeCells.ok k a0 v g1) impl_FreeCells.go
  let C2 := AvDel.del.con a1 v u g2
  let C3 := mkCon (impl_Walled.ok k a0 u r h) impl_Walled.go
  have b2 := sc_ C1
  have b4 := o1 (rfl : C2.f = C2.f) (o1 (rfl : C2.e = C2.e) (o1 (AvOrd.sc_in v) (o1 (rfl : 107 = 107) (o1 (VE.refl (rowI .i64 a1)) on))))
  have b5 := o1 (rfl : C3.f = C3.f) (o1 (VE.refl (.sc (.int .i64 a0.f0))) (o1 (VE.refl (.sc (.int .i64 a0.f1))) (o1 (VE.refl (.sc (.string a0.f2))) (o1 (VE.row (z := 1) (AvOrd.sc_out u)) on))))
  have lf := selfS_ok [(4, .ptr 256 0)] [(256, .box 38 [.p true (.sc (.int .i64 r.f0)), .p true (.sc (.int .i64 r.f1)), .p true (.sc (.string r.f2))])]
  have n1 := (oa lf on)
  have n2 := (oa (oa b5 n1) on)
  have n3 := (oa n2 on)
  have n4 := (oa (oa b4 n2) on)
  have n5 := (oa n4 (oa (oa b4 n3) on))
  have n6 := (oa (oa b2 n4) on)
  have n7 := (oa n6 (oa (oa b2 n5) on))
  have n8 := (oa n6 on)
  have n9 := (oa n8 (oa n7 on))
  have n10 := (oa n4 on)
  have n11 := (oa n10 (oa n5 on))
  have n12 := (oa (oa b2 n10) (oa n6 on))
  have n13 := (oa n12 (oa (oa b2 n11) (oa n7 on)))
  have n14 := (oa n12 (oa n8 on))
  have n15 := (oa n14 (oa n13 (oa n9 on)))
  exact byRet MX Tryz.func45 1000 [.anyR 6 [(4, .ptr 256 0)] [(256, .box 38 [.p true (.sc (.int .i64 r.f0)), .p true (.sc (.int .i64 r.f1)), .p true (.sc (.string r.f2))])], .reg 2, .call C1, .reg 4, .callM C2, .reg 5, .call C3, .fin] (oa n15 on) (by kernel_rfl)


/-! ### impl_firstCells: function 46 -/
def impl_firstCells.h0T (a0 : List S65) (v490 : Int) (v489 : List Int) : List (Nat × AV) := [(3, .t (.c (.h 320192))), (6, .t (.c (.p false (R 1 e65 z65 a0)))), (7, .t (.c (.p true (.sc (.int .i64 (a0.length : Int)))))), (8, .t (.c (.p true (.sc (.int .i64 v490)))))]
def impl_firstCells.h0H (a0 : List S65) (v490 : Int) (v489 : List Int) : List (Nat × Content) := [(320192, .row 3 1 v489.length (fun j => (eI .i64) (v489.getD j 0)) true)]
def impl_firstCells.l0 : Nat → List S65 → List Int → Int → Option (List Int)
  | 0, _, _, _ => none
  | kq + 1, a0, v489, v490 => if v490 < (a0.length : Int) then (if 0 ≤ v490 then (if 0 < (((rdD z65 a0 v490).f0).length : Int) then (if (v489.length + 1) * 8 ≤ 140737488355328 then (impl_firstCells.l0 kq a0 (v489 ++ [(rdD 0 ((rdD z65 a0 v490).f0) 0)]) (w64 (v490 + 1))) else none) else none) else none) else (some v489)
def impl_firstCells.f (k : Nat) (a0 : List S65) : Option (List Int) := impl_firstCells.l0 k a0 ([] : List Int) 0
theorem impl_firstCells.go : Callable Tryz.prog 46 := ⟨_, Tryz.func46, by kernel_rfl, rfl⟩
theorem impl_firstCells.ok (k : Nat) (a0 : List S65) (r : (List Int)) (h : impl_firstCells.f k a0 = some r) : VCalls Tryz.prog 46 [.c (R 1 e65 z65 a0)] [.c (.own 3 1 r.length (fun j => (eI .i64) (r.getD j 0)))] := by
  unfold impl_firstCells.f at h
  refine VCalls.of (fn := Tryz.f46) (N := 21) Tryz.func46 rfl rfl (fun w0 => ?_)
  have H0 : ∀ (kq : Nat) (v489 : List Int) (v490 : Int), impl_firstCells.l0 kq a0 v489 v490 = some r → AG Tryz.prog 46 21 [.c (.own 3 1 r.length (fun j => (eI .i64) (r.getD j 0)))] w0 (headStk (codeOf Tryz.f46) 0) (mkFS (impl_firstCells.h0T a0 v490 v489) (impl_firstCells.h0H a0 v490 v489)) := by
    intro kq
    induction kq with
    | zero => intro v489 v490 h; cases h
    | succ kq ih =>
      intro v489 v490 h
      rw [impl_firstCells.l0] at h
      by_cases c1514 : v490 < (a0.length : Int)
      · replace h := (if_pos c1514).symm.trans h
        obtain ⟨c1515, h⟩ := ifN h
        obtain ⟨c1516, h⟩ := ifN h
        obtain ⟨c1517, h⟩ := ifN h
        exact byHead MX Tryz.func46 1000 [.b true, rowe 17 (eI .i64) 0 ([(rdD 0 ((rdD z65 a0 v490).f0) 0)]), .aft 18, orow 320192 (eI .i64) 0 (v489 ++ [(rdD 0 ((rdD z65 a0 v490).f0) 0)]), .fin] (o1 (decide_eq_true c1514) (o1 c1515 (o1 c1514 (o1 (by decide : (0 : Int) ≤ 0) (o1 c1516 (o1 (GE.lit 1 (eI .i64) 0 [(rdD 0 ((rdD z65 a0 v490).f0) 0)] (by intro x; rfl)) (o1 c1517 (o1 (GE.app (e := (eI .i64)) (d := 0) v489 ([(rdD 0 ((rdD z65 a0 v490).f0) 0)]) rfl (fun _ _ => CE.refl _) rfl) on)))))))) (ih (v489 ++ [(rdD 0 ((rdD z65 a0 v490).f0) 0)]) (w64 (v490 + 1)) h) (by kernel_rfl)
      · replace h := (if_neg c1514).symm.trans h
        cases h
        exact byRet MX Tryz.func46 1000 [.b false, .fin, .fin] (o1 (decide_eq_false c1514) on) (by kernel_rfl)
  exact byHead MX Tryz.func46 1000 [.fin, .nil 3 320192 3 1, orow 320192 (eI .i64) 0 ([] : List Int)] (o1 (GE.nil (eI .i64) 0) on) (H0 k ([] : List Int) 0 h) (by kernel_rfl)

/-! ### impl_EndsOf: function 91 -/
def impl_EndsOf.h0T (a0 : List S65) (v494 : Int) (v493 : List Int) : List (Nat × AV) := [(3, .t (.c (.h 320192))), (6, .t (.c (.p false (R 1 e65 z65 a0)))), (7, .t (.c (.p true (.sc (.int .i64 (a0.length : Int)))))), (8, .t (.c (.p true (.sc (.int .i64 v494)))))]
def impl_EndsOf.h0H (a0 : List S65) (v494 : Int) (v493 : List Int) : List (Nat × Content) := [(320192, .row 3 1 v493.length (fun j => (eI .i64) (v493.getD j 0)) true)]
def impl_EndsOf.l0 : Nat → List S65 → List Int → Int → Option (List Int)
  | 0, _, _, _ => none
  | kq + 1, a0, v493, v494 => if v494 < (a0.length : Int) then (if 0 ≤ v494 then (if 0 < (((rdD z65 a0 v494).f0).length : Int) then (if 0 ≤ (w64 ((((rdD z65 a0 v494).f0).length : Int) - 1)) then (if (w64 ((((rdD z65 a0 v494).f0).length : Int) - 1)) < (((rdD z65 a0 v494).f0).length : Int) then (if (v493.length + 1) * 8 ≤ 140737488355328 then (impl_EndsOf.l0 kq a0 (v493 ++ [(rdD 0 ((rdD z65 a0 v494).f0) (w64 ((((rdD z65 a0 v494).f0).length : Int) - 1)))]) (w64 (v494 + 1))) else none) else none) else none) else (impl_EndsOf.l0 kq a0 v493 (w64 (v494 + 1)))) else none) else ((AvOrd.impl_ordered.f v493).bind fun t495 => some t495)
def impl_EndsOf.f (k : Nat) (a0 : List S65) : Option (List Int) := impl_EndsOf.l0 k a0 ([] : List Int) 0
theorem impl_EndsOf.go : Callable Tryz.prog 91 := ⟨_, Tryz.func91, by kernel_rfl, rfl⟩
theorem impl_EndsOf.ok (k : Nat) (a0 : List S65) (r : (List Int)) (h : impl_EndsOf.f k a0 = some r) : VCalls Tryz.prog 91 [.c (R 1 e65 z65 a0)] [.c (.own 3 1 r.length (fun j => (eI .i64) (r.getD j 0)))] := by
  unfold impl_EndsOf.f at h
  refine VCalls.of (fn := Tryz.f91) (N := 30) Tryz.func91 rfl rfl (fun w0 => ?_)
  have H0 : ∀ (kq : Nat) (v493 : List Int) (v494 : Int), impl_EndsOf.l0 kq a0 v493 v494 = some r → AG Tryz.prog 91 30 [.c (.own 3 1 r.length (fun j => (eI .i64) (r.getD j 0)))] w0 (headStk (codeOf Tryz.f91) 0) (mkFS (impl_EndsOf.h0T a0 v494 v493) (impl_EndsOf.h0H a0 v494 v493)) := by
    intro kq
    induction kq with
    | zero => intro v493 v494 h; cases h
    | succ kq ih =>
      intro v493 v494 h
      rw [impl_EndsOf.l0] at h
      by_cases c1535 : v494 < (a0.length : Int)
      · replace h := (if_pos c1535).symm.trans h
        obtain ⟨c1536, h⟩ := ifN h
        by_cases c1537 : 0 < (((rdD z65 a0 v494).f0).length : Int)
        · replace h := (if_pos c1537).symm.trans h
          obtain ⟨c1538, h⟩ := ifN h
          obtain ⟨c1539, h⟩ := ifN h
          obtain ⟨c1540, h⟩ := ifN h
          exact byHead MX Tryz.func91 1000 [.b true, .b true, rowe 25 (eI .i64) 0 ([(rdD 0 ((rdD z65 a0 v494).f0) (w64 ((((rdD z65 a0 v494).f0).length : Int) - 1)))]), .aft 26, orow 320192 (eI .i64) 0 (v493 ++ [(rdD 0 ((rdD z65 a0 v494).f0) (w64 ((((rdD z65 a0 v494).f0).length : Int) - 1)))]), .fin] (o1 (decide_eq_true c1535) (o1 c1536 (o1 c1535 (o1 (decide_eq_true c1537) (o1 c1538 (o1 c1539 (o1 (GE.lit 1 (eI .i64) 0 [(rdD 0 ((rdD z65 a0 v494).f0) (w64 ((((rdD z65 a0 v494).f0).length : Int) - 1)))] (by intro x; rfl)) (o1 c1540 (o1 (GE.app (e := (eI .i64)) (d := 0) v493 ([(rdD 0 ((rdD z65 a0 v494).f0) (w64 ((((rdD z65 a0 v494).f0).length : Int) - 1)))]) rfl (fun _ _ => CE.refl _) rfl) on))))))))) (ih (v493 ++ [(rdD 0 ((rdD z65 a0 v494).f0) (w64 ((((rdD z65 a0 v494).f0).length : Int) - 1)))]) (w64 (v494 + 1)) h) (by kernel_rfl)
        · replace h := (if_neg c1537).symm.trans h
          exact byHead MX Tryz.func91 1000 [.b true, .b false, .fin] (o1 (decide_eq_true c1535) (o1 c1536 (o1 c1535 (o1 (decide_eq_false c1537) on)))) (ih v493 (w64 (v494 + 1)) h) (by kernel_rfl)
      · replace h := (if_neg c1535).symm.trans h
        obtain ⟨t495, g1541, h⟩ := bindN h
        let C1541 := AvOrd.impl_ordered.con v493 t495 g1541
        cases h
        exact byRet MX Tryz.func91 1000 [.b false, .fin, .callM C1541, .aft 29, orow 320192 (eI .i64) 0 r, .fin] (o1 (decide_eq_false c1535) (o1 (rfl : C1541.f = C1541.f) (o1 (rfl : C1541.e = C1541.e) (o1 (AvOrd.sc_in v493) (o1 (AvOrd.sc_out r) on))))) (by kernel_rfl)
  exact byHead MX Tryz.func91 1000 [.fin, .nil 3 320192 3 1, orow 320192 (eI .i64) 0 ([] : List Int)] (o1 (GE.nil (eI .i64) 0) on) (H0 k ([] : List Int) 0 h) (by kernel_rfl)

/-! ### impl_isAsked: function 130 -/
def impl_isAsked.f (k : Nat) (a0 : S38) (a1 : List Int) (a2 : List Int) : Option Bool := (impl_areFree.f k a0 a1).bind fun t497 => if t497 = true then ((impl_areFree.f k a0 a2).bind fun t498 => if t498 = true then (if (a1.length : Int) < 1 then (some false) else (if 10 < (a1.length : Int) then (some false) else ((impl_isAscending.f k a1).bind fun t499 => if t499 = true then ((impl_isAscending.f k a2).bind fun t500 => if t500 = true then (some (decide ((a2.length : Int) ≤ (a1.length : Int)))) else (some false)) else (some false)))) else (some false)) else (some false)
theorem impl_isAsked.go : Callable Tryz.prog 130 := ⟨_, Tryz.func130, by kernel_rfl, rfl⟩
theorem impl_isAsked.ok (k : Nat) (a0 : S38) (a1 : List Int) (a2 : List Int) (r : Bool) (h : impl_isAsked.f k a0 a1 a2 = some r) : VCalls Tryz.prog 130 [.agg (e38 a0), .c (R 1 (eI .i64) 0 a1), .c (R 1 (eI .i64) 0 a2)] [.c (.p (.sc (.bool r)))] := by
  unfold impl_isAsked.f at h
  refine VCalls.of (fn := Tryz.f130) (N := 40) Tryz.func130 rfl rfl (fun w0 => ?_)
  obtain ⟨t497, g1543, h⟩ := bindN h
  let C1543 := mkCon (impl_areFree.ok k a0 a1 t497 g1543) impl_areFree.go
  by_cases c1544 : t497 = true
  · replace h := (if_pos c1544).symm.trans h
    obtain ⟨t498, g1545, h⟩ := bindN h
    let C1545 := mkCon (impl_areFree.ok k a0 a2 t498 g1545) impl_areFree.go
    by_cases c1546 : t498 = true
    · replace h := (if_pos c1546).symm.trans h
      by_cases c1547 : (a1.length : Int) < 1
      · replace h := (if_pos c1547).symm.trans h
        cases h
        exact byRet MX Tryz.func130 1000 [.call C1543, .dec 11 false, .call C1545, .dec 17 false, .dec 22 true, .b true, .fin] (oa (sc_ C1543) (o1 (bnf c1544) (oa (sc_ C1545) (o1 (bnf c1546) (o1 (decide_eq_true c1547) (o1 (rfl : true = true) on)))))) (by kernel_rfl)
      · replace h := (if_neg c1547).symm.trans h
        by_cases c1548 : 10 < (a1.length : Int)
        · replace h := (if_pos c1548).symm.trans h
          cases h
          exact byRet MX Tryz.func130 1000 [.call C1543, .dec 11 false, .call C1545, .dec 17 false, .dec 22 false, .b true, .fin] (oa (sc_ C1543) (o1 (bnf c1544) (oa (sc_ C1545) (o1 (bnf c1546) (o1 (decide_eq_false c1547) (o1 (decide_eq_true c1548) on)))))) (by kernel_rfl)
        · replace h := (if_neg c1548).symm.trans h
          obtain ⟨t499, g1549, h⟩ := bindN h
          let C1549 := mkCon (impl_isAscending.ok k a1 t499 g1549) impl_isAscending.go
          by_cases c1550 : t499 = true
          · replace h := (if_pos c1550).symm.trans h
            obtain ⟨t500, g1551, h⟩ := bindN h
            let C1551 := mkCon (impl_isAscending.ok k a2 t500 g1551) impl_isAscending.go
            by_cases c1552 : t500 = true
            · replace h := (if_pos c1552).symm.trans h
              cases h
              exact byRet MX Tryz.func130 1000 [.call C1543, .dec 11 false, .call C1545, .dec 17 false, .dec 22 false, .b false, .call C1549, .dec 29 true, .call C1551, .dec 33 true, .fin] (oa (sc_ C1543) (o1 (bnf c1544) (oa (sc_ C1545) (o1 (bnf c1546) (o1 (decide_eq_false c1547) (o1 (decide_eq_false c1548) (oa (sc_ C1549) (o1 c1550 (oa (sc_ C1551) (o1 c1552 on)))))))))) (by kernel_rfl)
            · replace h := (if_neg c1552).symm.trans h
              cases h
              exact byRet MX Tryz.func130 1000 [.call C1543, .dec 11 false, .call C1545, .dec 17 false, .dec 22 false, .b false, .call C1549, .dec 29 true, .call C1551, .dec 33 false, .fin] (oa (sc_ C1543) (o1 (bnf c1544) (oa (sc_ C1545) (o1 (bnf c1546) (o1 (decide_eq_false c1547) (o1 (decide_eq_false c1548) (oa (sc_ C1549) (o1 c1550 (oa (sc_ C1551) (o1 (eqf c1552) on)))))))))) (by kernel_rfl)
          · replace h := (if_neg c1550).symm.trans h
            cases h
            exact byRet MX Tryz.func130 1000 [.call C1543, .dec 11 false, .call C1545, .dec 17 false, .dec 22 false, .b false, .call C1549, .dec 29 false, .fin] (oa (sc_ C1543) (o1 (bnf c1544) (oa (sc_ C1545) (o1 (bnf c1546) (o1 (decide_eq_false c1547) (o1 (decide_eq_false c1548) (oa (sc_ C1549) (o1 (eqf c1550) on)))))))) (by kernel_rfl)
    · replace h := (if_neg c1546).symm.trans h
      cases h
      exact byRet MX Tryz.func130 1000 [.call C1543, .dec 11 false, .call C1545, .dec 17 true, .b true, .fin] (oa (sc_ C1543) (o1 (bnf c1544) (oa (sc_ C1545) (o1 (bnt (eqf c1546)) (o1 (rfl : true = true) on))))) (by kernel_rfl)
  · replace h := (if_neg c1544).symm.trans h
    cases h
    exact byRet MX Tryz.func130 1000 [.call C1543, .dec 11 true, .b true, .fin] (oa (sc_ C1543) (o1 (bnt (eqf c1544)) (o1 (rfl : true = true) on))) (by kernel_rfl)

/-! ### impl_AskOk: function 92 -/
def impl_AskOk.f (k : Nat) (a0 : S38) (a1 : List Int) (a2 : List Int) (a3 : Int) : Option Bool := (impl_isAsked.f k a0 a1 a2).bind fun t501 => if t501 = true then (if 0 ≤ a3 then (if a3 ≤ 20 then ((impl_FreeCells.f k a0).bind fun t502 => some (decide ((w64 ((t502.length : Int) * (w64 (a3 + 1)))) ≤ 240))) else (some false)) else (some false)) else (some false)
theorem impl_AskOk.go : Callable Tryz.prog 92 := ⟨_, Tryz.func92, by kernel_rfl, rfl⟩
theorem impl_AskOk.ok (k : Nat) (a0 : S38) (a1 : List Int) (a2 : List Int) (a3 : Int) (r : Bool) (h : impl_AskOk.f k a0 a1 a2 a3 = some r) : VCalls Tryz.prog 92 [.agg (e38 a0), .c (R 1 (eI .i64) 0 a1), .c (R 1 (eI .i64) 0 a2), .c (.sc (.int .i64 a3))] [.c (.p (.sc (.bool r)))] := by
  unfold impl_AskOk.f at h
  refine VCalls.of (fn := Tryz.f92) (N := 30) Tryz.func92 rfl rfl (fun w0 => ?_)
  obtain ⟨t501, g1553, h⟩ := bindN h
  let C1553 := mkCon (impl_isAsked.ok k a0 a1 a2 t501 g1553) impl_isAsked.go
  by_cases c1554 : t501 = true
  · replace h := (if_pos c1554).symm.trans h
    by_cases c1555 : 0 ≤ a3
    · replace h := (if_pos c1555).symm.trans h
      by_cases c1556 : a3 ≤ 20
      · replace h := (if_pos c1556).symm.trans h
        obtain ⟨t502, g1557, h⟩ := bindN h
        let C1557 := mkCon (impl_FreeCells.ok k a0 t502 g1557) impl_FreeCells.go
        cases h
        exact byRet MX Tryz.func92 1000 [.call C1553, .dec 13 true, .dec 17 true, .dec 21 true, .call C1557, .fin] (oa (sc_ C1553) (o1 c1554 (o1 (decide_eq_true c1555) (o1 (decide_eq_true c1556) (oa (sc_ C1557) on))))) (by kernel_rfl)
      · replace h := (if_neg c1556).symm.trans h
        cases h
        exact byRet MX Tryz.func92 1000 [.call C1553, .dec 13 true, .dec 17 true, .dec 21 false, .fin] (oa (sc_ C1553) (o1 c1554 (o1 (decide_eq_true c1555) (o1 (decide_eq_false c1556) on)))) (by kernel_rfl)
    · replace h := (if_neg c1555).symm.trans h
      cases h
      exact byRet MX Tryz.func92 1000 [.call C1553, .dec 13 true, .dec 17 false, .fin] (oa (sc_ C1553) (o1 c1554 (o1 (decide_eq_false c1555) on))) (by kernel_rfl)
  · replace h := (if_neg c1554).symm.trans h
    cases h
    exact byRet MX Tryz.func92 1000 [.call C1553, .dec 13 false, .fin] (oa (sc_ C1553) (o1 (eqf c1554) on)) (by kernel_rfl)
end Go.Proofs.YtnnppdjmhellcaaGreat.V
