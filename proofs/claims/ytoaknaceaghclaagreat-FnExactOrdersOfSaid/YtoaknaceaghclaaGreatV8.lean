/- What each Go function computes, and that the machine does so: printed by a program of this session (avgen.py). -/
import Derived.Test.YtoaknaceaghclaaGreatV7
namespace Go.Proofs.YtoaknaceaghclaaGreat.V
open Go Go.Av Go.Proofs
set_option linter.unusedVariables false
set_option maxRecDepth 100000
/-! ### slices_ContainsFunc_impl_Job_impl_Job_3: function 100 -/
def slices_ContainsFunc_impl_Job_impl_Job_3.f (k : Nat) (a0 : List S74) (p1 : S74 → Option Bool) : Option Bool := (slices_IndexFunc_impl_Job_impl_Job_3.f k a0 p1).bind fun t460 => some (decide (0 ≤ t460))
theorem slices_ContainsFunc_impl_Job_impl_Job_3.go : Callable Tryz.prog 100 := ⟨_, Tryz.func100, by kernel_rfl, rfl⟩
theorem slices_ContainsFunc_impl_Job_impl_Job_3.ok (k : Nat) (a0 : List S74) (p1 : S74 → Option Bool) (gi1 : FuncId) (u1_0_0 u1_0_1 u1_0_2 : V) (hp1 : ∀ x0 r, p1 x0 = some r → VCalls Tryz.prog gi1 [.agg (e74 x0), .ptr [u1_0_0, u1_0_1, u1_0_2]] [.c (.p (.sc (.bool r)))]) (go1 : Callable Tryz.prog gi1) (r : Bool) (h : slices_ContainsFunc_impl_Job_impl_Job_3.f k a0 p1 = some r) : VCalls Tryz.prog 100 [.c (R 3 e74 z74 a0), .fn gi1 [[u1_0_0, u1_0_1, u1_0_2]]] [.c (.p (.sc (.bool r)))] := by
  unfold slices_ContainsFunc_impl_Job_impl_Job_3.f at h
  refine VCalls.of (fn := Tryz.f100) (N := 9) Tryz.func100 rfl rfl (fun w0 => ?_)
  obtain ⟨t460, g1446, h⟩ := bindN h
  let C1446 := mkCon (slices_IndexFunc_impl_Job_impl_Job_3.ok k a0 p1 gi1 u1_0_0 u1_0_1 u1_0_2 hp1 go1 t460 g1446) slices_IndexFunc_impl_Job_impl_Job_3.go
  cases h
  exact byRet MX Tryz.func100 1000 [.call C1446, .fin] (oa (sc_ C1446) on) (by kernel_rfl)

/-! ### impl_isJob: function 211 -/
def impl_isJob.f (k : Nat) (a0 : S48) (a1 : Int) (a2 : Int) : Option Bool := if 0 ≤ a1 then (if a1 < (a0.f6.length : Int) then (if a1 < (a0.f5.f2.length : Int) then ((impl_RobotAt.f k a0.f1 ((rdD z74 a0.f6 a1).f0)).bind fun t456 => if t456 < 0 then (some false) else (if 0 ≤ t456 then (if t456 < (a0.f1.length : Int) then (if (rdD z69 a0.f1 t456).f3 = true then (some false) else (if (rdD z74 a0.f6 a1).f1 < 0 then (some false) else (if a0.f5.f0 < (rdD z74 a0.f6 a1).f1 then (some false) else (if (w64 (a2 + 1)) < (rdD z74 a0.f6 a1).f1 then (some false) else (if a1 ≤ (a0.f6.length : Int) then ((slices_ContainsFunc_impl_Job_impl_Job_3.f k ((a0.f6.drop (0 : Int).toNat).take (a1.toNat - (0 : Int).toNat)) (fun x1438 => impl_isJob_1.f x1438 (rdD z74 a0.f6 a1))).bind fun t461 => if t461 = true then (some false) else (if 0 ≤ (rdD z74 a0.f6 a1).f1 then (if (rdD z74 a0.f6 a1).f1 < (((rdD z72 a0.f5.f2 a1).f0).length : Int) then (if (rdD z69 a0.f1 t456).f1 = (rdD 0 ((rdD z72 a0.f5.f2 a1).f0) ((rdD z74 a0.f6 a1).f1)) then (if (rdD z74 a0.f6 a1).f2 = true then (if (rdD z74 a0.f6 a1).f1 < a0.f5.f0 then (if 0 ≤ (w64 ((rdD z74 a0.f6 a1).f1 + 1)) then (if (w64 ((rdD z74 a0.f6 a1).f1 + 1)) < (((rdD z72 a0.f5.f2 a1).f0).length : Int) then (some (decide ((rdD z69 a0.f1 t456).f2 = (rdD 0 ((rdD z72 a0.f5.f2 a1).f0) (w64 ((rdD z74 a0.f6 a1).f1 + 1)))))) else none) else none) else (some false)) else (some (decide ((rdD z69 a0.f1 t456).f2 = (-1))))) else (some false)) else none) else none)) else none))))) else none) else none)) else none) else none) else none
theorem impl_isJob.go : Callable Tryz.prog 211 := ⟨_, Tryz.func211, by kernel_rfl, rfl⟩
theorem impl_isJob.ok (k : Nat) (a0 : S48) (a1 : Int) (a2 : Int) (r : Bool) (h : impl_isJob.f k a0 a1 a2 = some r) : VCalls Tryz.prog 211 [.agg (e48 a0), .c (.sc (.int .i64 a1)), .c (.sc (.int .i64 a2))] [.c (.p (.sc (.bool r)))] := by
  unfold impl_isJob.f at h
  refine VCalls.of (fn := Tryz.f211) (N := 107) Tryz.func211 rfl rfl (fun w0 => ?_)
  obtain ⟨c1417, h⟩ := ifN h
  obtain ⟨c1418, h⟩ := ifN h
  obtain ⟨c1419, h⟩ := ifN h
  obtain ⟨t456, g1429, h⟩ := bindN h
  let C1429 := mkCon (impl_RobotAt.ok k a0.f1 ((rdD z74 a0.f6 a1).f0) t456 g1429) impl_RobotAt.go
  by_cases c1430 : t456 < 0
  · replace h := (if_pos c1430).symm.trans h
    cases h
    exact byRet MX Tryz.func211 1000 [.call C1429, .dec 29 true, .b true, .fin] (o1 c1417 (o1 c1418 (o1 c1417 (o1 c1419 (oa (sc_ C1429) (o1 (decide_eq_true c1430) (o1 (rfl : true = true) on))))))) (by kernel_rfl)
  · replace h := (if_neg c1430).symm.trans h
    obtain ⟨c1431, h⟩ := ifN h
    obtain ⟨c1432, h⟩ := ifN h
    by_cases c1433 : (rdD z69 a0.f1 t456).f3 = true
    · replace h := (if_pos c1433).symm.trans h
      cases h
      exact byRet MX Tryz.func211 1000 [.call C1429, .dec 29 false, .dec 37 true, .b true, .fin] (o1 c1417 (o1 c1418 (o1 c1417 (o1 c1419 (oa (sc_ C1429) (o1 (decide_eq_false c1430) (o1 c1431 (o1 c1432 (o1 c1433 (o1 (rfl : true = true) on)))))))))) (by kernel_rfl)
    · replace h := (if_neg c1433).symm.trans h
      by_cases c1434 : (rdD z74 a0.f6 a1).f1 < 0
      · replace h := (if_pos c1434).symm.trans h
        cases h
        exact byRet MX Tryz.func211 1000 [.call C1429, .dec 29 false, .dec 37 false, .dec 42 true, .b true, .fin] (o1 c1417 (o1 c1418 (o1 c1417 (o1 c1419 (oa (sc_ C1429) (o1 (decide_eq_false c1430) (o1 c1431 (o1 c1432 (o1 (eqf c1433) (o1 (decide_eq_true c1434) (o1 (rfl : true = true) on))))))))))) (by kernel_rfl)
      · replace h := (if_neg c1434).symm.trans h
        by_cases c1435 : a0.f5.f0 < (rdD z74 a0.f6 a1).f1
        · replace h := (if_pos c1435).symm.trans h
          cases h
          exact byRet MX Tryz.func211 1000 [.call C1429, .dec 29 false, .dec 37 false, .dec 42 false, .dec 50 true, .b true, .fin] (o1 c1417 (o1 c1418 (o1 c1417 (o1 c1419 (oa (sc_ C1429) (o1 (decide_eq_false c1430) (o1 c1431 (o1 c1432 (o1 (eqf c1433) (o1 (decide_eq_false c1434) (o1 (decide_eq_true c1435) (o1 (rfl : true = true) on)))))))))))) (by kernel_rfl)
        · replace h := (if_neg c1435).symm.trans h
          by_cases c1436 : (w64 (a2 + 1)) < (rdD z74 a0.f6 a1).f1
          · replace h := (if_pos c1436).symm.trans h
            cases h
            exact byRet MX Tryz.func211 1000 [.call C1429, .dec 29 false, .dec 37 false, .dec 42 false, .dec 50 false, .b true, .fin] (o1 c1417 (o1 c1418 (o1 c1417 (o1 c1419 (oa (sc_ C1429) (o1 (decide_eq_false c1430) (o1 c1431 (o1 c1432 (o1 (eqf c1433) (o1 (decide_eq_false c1434) (o1 (decide_eq_false c1435) (o1 (decide_eq_true c1436) on)))))))))))) (by kernel_rfl)
          · replace h := (if_neg c1436).symm.trans h
            obtain ⟨c1437, h⟩ := ifN h
            obtain ⟨t461, g1447, h⟩ := bindN h
            let C1447 := mkCon (slices_ContainsFunc_impl_Job_impl_Job_3.ok k ((a0.f6.drop (0 : Int).toNat).take (a1.toNat - (0 : Int).toNat)) (fun x1438 => impl_isJob_1.f x1438 (rdD z74 a0.f6 a1)) 237 (.sc (.int .i64 ((rdD z74 a0.f6 a1).f0))) (.sc (.int .i64 ((rdD z74 a0.f6 a1).f1))) (.sc (.bool ((rdD z74 a0.f6 a1).f2))) (fun x1438 r h => impl_isJob_1.ok x1438 (rdD z74 a0.f6 a1) r h) impl_isJob_1.go t461 g1447) slices_ContainsFunc_impl_Job_impl_Job_3.go
            by_cases c1448 : t461 = true
            · replace h := (if_pos c1448).symm.trans h
              cases h
              exact byRet MX Tryz.func211 1000 [.call C1429, .dec 29 false, .dec 37 false, .dec 42 false, .dec 50 false, .b false, .cst 60 (R 3 e74 z74 ((a0.f6.drop (0 : Int).toNat).take (a1.toNat - (0 : Int).toNat))), .call C1447, .dec 63 true, .b true, .fin] (o1 c1417 (o1 c1418 (o1 c1417 (o1 c1419 (oa (sc_ C1429) (o1 (decide_eq_false c1430) (o1 c1431 (o1 c1432 (o1 (eqf c1433) (o1 (decide_eq_false c1434) (o1 (decide_eq_false c1435) (o1 (decide_eq_false c1436) (o1 (by decide : (0 : Int) ≤ 0) (o1 c1417 (o1 c1437 (o1 (VE.cut (z := 3) (e := e74) (d := z74) a0.f6 (n := a0.f6.length) (lo := 0) (hi := a1) rfl (by decide : (0 : Int) ≤ 0) c1417 c1437) (oa (sc_ C1447) (o1 c1448 (o1 (rfl : true = true) on))))))))))))))))))) (by kernel_rfl)
            · replace h := (if_neg c1448).symm.trans h
              obtain ⟨c1449, h⟩ := ifN h
              obtain ⟨c1450, h⟩ := ifN h
              by_cases c1451 : (rdD z69 a0.f1 t456).f1 = (rdD 0 ((rdD z72 a0.f5.f2 a1).f0) ((rdD z74 a0.f6 a1).f1))
              · replace h := (if_pos c1451).symm.trans h
                by_cases c1452 : (rdD z74 a0.f6 a1).f2 = true
                · replace h := (if_pos c1452).symm.trans h
                  by_cases c1453 : (rdD z74 a0.f6 a1).f1 < a0.f5.f0
                  · replace h := (if_pos c1453).symm.trans h
                    obtain ⟨c1454, h⟩ := ifN h
                    obtain ⟨c1455, h⟩ := ifN h
                    cases h
                    exact byRet MX Tryz.func211 1000 [.call C1429, .dec 29 false, .dec 37 false, .dec 42 false, .dec 50 false, .b false, .cst 60 (R 3 e74 z74 ((a0.f6.drop (0 : Int).toNat).take (a1.toNat - (0 : Int).toNat))), .call C1447, .dec 63 false, .b false, .b true, .dec 85 true, .fin] (o1 c1417 (o1 c1418 (o1 c1417 (o1 c1419 (oa (sc_ C1429) (o1 (decide_eq_false c1430) (o1 c1431 (o1 c1432 (o1 (eqf c1433) (o1 (decide_eq_false c1434) (o1 (decide_eq_false c1435) (o1 (decide_eq_false c1436) (o1 (by decide : (0 : Int) ≤ 0) (o1 c1417 (o1 c1437 (o1 (VE.cut (z := 3) (e := e74) (d := z74) a0.f6 (n := a0.f6.length) (lo := 0) (hi := a1) rfl (by decide : (0 : Int) ≤ 0) c1417 c1437) (oa (sc_ C1447) (o1 (eqf c1448) (o1 c1431 (o1 c1432 (o1 c1449 (o1 c1450 (o1 (bnf (decide_eq_true c1451)) (o1 c1452 (o1 (decide_eq_true c1453) (o1 c1431 (o1 c1432 (o1 c1454 (o1 c1455 on))))))))))))))))))))))))))))) (by kernel_rfl)
                  · replace h := (if_neg c1453).symm.trans h
                    cases h
                    exact byRet MX Tryz.func211 1000 [.call C1429, .dec 29 false, .dec 37 false, .dec 42 false, .dec 50 false, .b false, .cst 60 (R 3 e74 z74 ((a0.f6.drop (0 : Int).toNat).take (a1.toNat - (0 : Int).toNat))), .call C1447, .dec 63 false, .b false, .b true, .dec 85 false, .fin] (o1 c1417 (o1 c1418 (o1 c1417 (o1 c1419 (oa (sc_ C1429) (o1 (decide_eq_false c1430) (o1 c1431 (o1 c1432 (o1 (eqf c1433) (o1 (decide_eq_false c1434) (o1 (decide_eq_false c1435) (o1 (decide_eq_false c1436) (o1 (by decide : (0 : Int) ≤ 0) (o1 c1417 (o1 c1437 (o1 (VE.cut (z := 3) (e := e74) (d := z74) a0.f6 (n := a0.f6.length) (lo := 0) (hi := a1) rfl (by decide : (0 : Int) ≤ 0) c1417 c1437) (oa (sc_ C1447) (o1 (eqf c1448) (o1 c1431 (o1 c1432 (o1 c1449 (o1 c1450 (o1 (bnf (decide_eq_true c1451)) (o1 c1452 (o1 (decide_eq_false c1453) on))))))))))))))))))))))))) (by kernel_rfl)
                · replace h := (if_neg c1452).symm.trans h
                  cases h
                  exact byRet MX Tryz.func211 1000 [.call C1429, .dec 29 false, .dec 37 false, .dec 42 false, .dec 50 false, .b false, .cst 60 (R 3 e74 z74 ((a0.f6.drop (0 : Int).toNat).take (a1.toNat - (0 : Int).toNat))), .call C1447, .dec 63 false, .b false, .b false, .fin] (o1 c1417 (o1 c1418 (o1 c1417 (o1 c1419 (oa (sc_ C1429) (o1 (decide_eq_false c1430) (o1 c1431 (o1 c1432 (o1 (eqf c1433) (o1 (decide_eq_false c1434) (o1 (decide_eq_false c1435) (o1 (decide_eq_false c1436) (o1 (by decide : (0 : Int) ≤ 0) (o1 c1417 (o1 c1437 (o1 (VE.cut (z := 3) (e := e74) (d := z74) a0.f6 (n := a0.f6.length) (lo := 0) (hi := a1) rfl (by decide : (0 : Int) ≤ 0) c1417 c1437) (oa (sc_ C1447) (o1 (eqf c1448) (o1 c1431 (o1 c1432 (o1 c1449 (o1 c1450 (o1 (bnf (decide_eq_true c1451)) (o1 (eqf c1452) (o1 c1431 (o1 c1432 on)))))))))))))))))))))))))) (by kernel_rfl)
              · replace h := (if_neg c1451).symm.trans h
                cases h
                exact byRet MX Tryz.func211 1000 [.call C1429, .dec 29 false, .dec 37 false, .dec 42 false, .dec 50 false, .b false, .cst 60 (R 3 e74 z74 ((a0.f6.drop (0 : Int).toNat).take (a1.toNat - (0 : Int).toNat))), .call C1447, .dec 63 false, .b true, .fin] (o1 c1417 (o1 c1418 (o1 c1417 (o1 c1419 (oa (sc_ C1429) (o1 (decide_eq_false c1430) (o1 c1431 (o1 c1432 (o1 (eqf c1433) (o1 (decide_eq_false c1434) (o1 (decide_eq_false c1435) (o1 (decide_eq_false c1436) (o1 (by decide : (0 : Int) ≤ 0) (o1 c1417 (o1 c1437 (o1 (VE.cut (z := 3) (e := e74) (d := z74) a0.f6 (n := a0.f6.length) (lo := 0) (hi := a1) rfl (by decide : (0 : Int) ≤ 0) c1417 c1437) (oa (sc_ C1447) (o1 (eqf c1448) (o1 c1431 (o1 c1432 (o1 c1449 (o1 c1450 (o1 (bnt (decide_eq_false c1451)) on))))))))))))))))))))))) (by kernel_rfl)

/-! ### impl_jobsOk: function 163 -/
def impl_jobsOk.h0T (a1 : Bool) (t451 : Int) (a0 : S48) (v463 : Int) : List (Nat × AV) := [(1, .t (.c (.p false (.sc (.bool a1))))), (2, .ptr 128 0), (5, .ptr 320 0), (6, .t (.c (.p true (.sc (.int .i64 t451))))), (70, .t (.c (.p true (.sc (.int .i64 (a0.f6.length : Int)))))), (71, .t (.c (.p true (.sc (.int .i64 v463)))))]
def impl_jobsOk.h0H (a1 : Bool) (t451 : Int) (a0 : S48) (v463 : Int) : List (Nat × Content) := [(128, .box 48 [.p false (.sc (.int .i64 a0.f0.f0.f0)), .p false (.sc (.int .i64 a0.f0.f0.f1)), .p false (.sc (.string a0.f0.f0.f2)), .p false (.sc (.int .i64 a0.f0.f1)), .p false (.sc (.int .i64 a0.f0.f2)), .p false (.sc (.int .i64 a0.f0.f3)), .p false (.sc (.int .i64 a0.f0.f4)), .p false (R 4 e69 z69 a0.f1), .p false (.sc (.int .i64 a0.f2.f0)), .p false (.sc (.int .i64 a0.f2.f1)), .p false (R 1 (eI .i64) 0 a0.f2.f2), .p false (.sc (.int .i64 a0.f3)), .p false (.sc (.bool a0.f4)), .p false (.sc (.int .i64 a0.f5.f0)), .p false (.sc (.int .i64 a0.f5.f1)), .p false (R 1 e72 z72 a0.f5.f2), .p false (R 3 e74 z74 a0.f6), .p false (R 1 (eI .i64) 0 a0.f7)]), (320, .box 45 [.p false (.sc (.int .i64 a0.f5.f0)), .p false (.sc (.int .i64 a0.f5.f1)), .p false (R 1 e72 z72 a0.f5.f2)])]
def impl_jobsOk.l0 : Nat → S48 → Int → Bool → Int → Option Bool
  | 0, _, _, _, _ => none
  | kq + 1, a0, t451, a1, v463 => if v463 < (a0.f6.length : Int) then ((impl_isJob.f kq a0 v463 t451).bind fun t464 => if t464 = true then (impl_jobsOk.l0 kq a0 t451 a1 (w64 (v463 + 1))) else (some false)) else (if a1 = true then (some true) else (some (decide (t451 < a0.f5.f0))))
def impl_jobsOk.f (k : Nat) (a0 : S48) (a1 : Bool) : Option Bool := if a0.f4 = true then (if a0.f5.f0 < 0 then (some false) else (if 20 < a0.f5.f0 then (some false) else (if (a0.f6.length : Int) < 1 then (some false) else (if 10 < (a0.f6.length : Int) then (some false) else (if (a0.f6.length : Int) = (a0.f5.f2.length : Int) then ((slices_ContainsFunc_impl_Way_impl_Way_3.f k a0.f5.f2 (fun x1376 => impl_jobsOk_1.f x1376 a0.f5)).bind fun t433 => if t433 = true then (some false) else ((impl_LayerOf.f k a0).bind fun t451 => impl_jobsOk.l0 k a0 t451 a1 0)) else (some false)))))) else (if a0.f5.f0 = 0 then (if a0.f5.f1 = 0 then (if (a0.f5.f2.length : Int) = 0 then (some (decide ((a0.f6.length : Int) = 0))) else (some false)) else (some false)) else (some false))
theorem impl_jobsOk.go : Callable Tryz.prog 163 := ⟨_, Tryz.func163, by kernel_rfl, rfl⟩
theorem impl_jobsOk.ok (k : Nat) (a0 : S48) (a1 : Bool) (r : Bool) (h : impl_jobsOk.f k a0 a1 = some r) : VCalls Tryz.prog 163 [.agg (e48 a0), .c (.sc (.bool a1))] [.c (.p (.sc (.bool r)))] := by
  unfold impl_jobsOk.f at h
  refine VCalls.of (fn := Tryz.f163) (N := 87) Tryz.func163 rfl rfl (fun w0 => ?_)
  by_cases c1370 : a0.f4 = true
  · replace h := (if_pos c1370).symm.trans h
    by_cases c1371 : a0.f5.f0 < 0
    · replace h := (if_pos c1371).symm.trans h
      cases h
      exact byRet MX Tryz.func163 1000 [.b false, .dec 36 true, .b true, .fin] (o1 (bnf c1370) (o1 (decide_eq_true c1371) (o1 (rfl : true = true) on))) (by kernel_rfl)
    · replace h := (if_neg c1371).symm.trans h
      by_cases c1372 : 20 < a0.f5.f0
      · replace h := (if_pos c1372).symm.trans h
        cases h
        exact byRet MX Tryz.func163 1000 [.b false, .dec 36 false, .dec 41 true, .b true, .fin] (o1 (bnf c1370) (o1 (decide_eq_false c1371) (o1 (decide_eq_true c1372) (o1 (rfl : true = true) on)))) (by kernel_rfl)
      · replace h := (if_neg c1372).symm.trans h
        by_cases c1373 : (a0.f6.length : Int) < 1
        · replace h := (if_pos c1373).symm.trans h
          cases h
          exact byRet MX Tryz.func163 1000 [.b false, .dec 36 false, .dec 41 false, .dec 47 true, .b true, .fin] (o1 (bnf c1370) (o1 (decide_eq_false c1371) (o1 (decide_eq_false c1372) (o1 (decide_eq_true c1373) (o1 (rfl : true = true) on))))) (by kernel_rfl)
        · replace h := (if_neg c1373).symm.trans h
          by_cases c1374 : 10 < (a0.f6.length : Int)
          · replace h := (if_pos c1374).symm.trans h
            cases h
            exact byRet MX Tryz.func163 1000 [.b false, .dec 36 false, .dec 41 false, .dec 47 false, .dec 53 true, .b true, .fin] (o1 (bnf c1370) (o1 (decide_eq_false c1371) (o1 (decide_eq_false c1372) (o1 (decide_eq_false c1373) (o1 (decide_eq_true c1374) (o1 (rfl : true = true) on)))))) (by kernel_rfl)
          · replace h := (if_neg c1374).symm.trans h
            by_cases c1375 : (a0.f6.length : Int) = (a0.f5.f2.length : Int)
            · replace h := (if_pos c1375).symm.trans h
              obtain ⟨t433, g1385, h⟩ := bindN h
              let C1385 := mkCon (slices_ContainsFunc_impl_Way_impl_Way_3.ok k a0.f5.f2 (fun x1376 => impl_jobsOk_1.f x1376 a0.f5) 210 (.sc (.int .i64 a0.f5.f0)) (.sc (.int .i64 a0.f5.f1)) (R 1 e72 z72 a0.f5.f2) (fun x1376 r h => impl_jobsOk_1.ok x1376 a0.f5 r h) impl_jobsOk_1.go t433 g1385) slices_ContainsFunc_impl_Way_impl_Way_3.go
              by_cases c1386 : t433 = true
              · replace h := (if_pos c1386).symm.trans h
                cases h
                exact byRet MX Tryz.func163 1000 [.b false, .dec 36 false, .dec 41 false, .dec 47 false, .dec 53 false, .b false, .call C1385, .b true, .fin] (o1 (bnf c1370) (o1 (decide_eq_false c1371) (o1 (decide_eq_false c1372) (o1 (decide_eq_false c1373) (o1 (decide_eq_false c1374) (o1 (bnf (decide_eq_true c1375)) (oa (sc_ C1385) (o1 c1386 on)))))))) (by kernel_rfl)
              · replace h := (if_neg c1386).symm.trans h
                obtain ⟨t451, g1415, h⟩ := bindN h
                let C1415 := mkCon (impl_LayerOf.ok k a0 t451 g1415) impl_LayerOf.go
                have H0 : ∀ (kq : Nat) (v463 : Int), impl_jobsOk.l0 kq a0 t451 a1 v463 = some r → AG Tryz.prog 163 87 [.c (.p (.sc (.bool r)))] w0 (headStk (codeOf Tryz.f163) 0) (mkFS (impl_jobsOk.h0T a1 t451 a0 v463) (impl_jobsOk.h0H a1 t451 a0 v463)) := by
                  intro kq
                  induction kq with
                  | zero => intro v463 h; cases h
                  | succ kq ih =>
                    intro v463 h
                    rw [impl_jobsOk.l0] at h
                    by_cases c1458 : v463 < (a0.f6.length : Int)
                    · replace h := (if_pos c1458).symm.trans h
                      obtain ⟨t464, g1459, h⟩ := bindN h
                      let C1459 := mkCon (impl_isJob.ok kq a0 v463 t451 t464 g1459) impl_isJob.go
                      by_cases c1460 : t464 = true
                      · replace h := (if_pos c1460).symm.trans h
                        exact byHead MX Tryz.func163 1000 [.b true, .call C1459, .b false, .fin] (o1 (decide_eq_true c1458) (oa (sc_ C1459) (o1 (bnf c1460) on))) (ih (w64 (v463 + 1)) h) (by kernel_rfl)
                      · replace h := (if_neg c1460).symm.trans h
                        cases h
                        exact byRet MX Tryz.func163 1000 [.b true, .call C1459, .b true, .fin] (o1 (decide_eq_true c1458) (oa (sc_ C1459) (o1 (bnt (eqf c1460)) on))) (by kernel_rfl)
                    · replace h := (if_neg c1458).symm.trans h
                      by_cases c1461 : a1 = true
                      · replace h := (if_pos c1461).symm.trans h
                        cases h
                        exact byRet MX Tryz.func163 1000 [.b false, .fin, .dec 81 true, .fin] (o1 (decide_eq_false c1458) (o1 c1461 on)) (by kernel_rfl)
                      · replace h := (if_neg c1461).symm.trans h
                        cases h
                        exact byRet MX Tryz.func163 1000 [.b false, .fin, .dec 81 false, .fin] (o1 (decide_eq_false c1458) (o1 (eqf c1461) on)) (by kernel_rfl)
                exact byHead MX Tryz.func163 1000 [.b false, .dec 36 false, .dec 41 false, .dec 47 false, .dec 53 false, .b false, .call C1385, .b false, .call C1415, .fin] (o1 (bnf c1370) (o1 (decide_eq_false c1371) (o1 (decide_eq_false c1372) (o1 (decide_eq_false c1373) (o1 (decide_eq_false c1374) (o1 (bnf (decide_eq_true c1375)) (oa (sc_ C1385) (o1 (eqf c1386) (oa (sc_ C1415) on))))))))) (H0 k 0 h) (by kernel_rfl)
            · replace h := (if_neg c1375).symm.trans h
              cases h
              exact byRet MX Tryz.func163 1000 [.b false, .dec 36 false, .dec 41 false, .dec 47 false, .dec 53 false, .b true, .fin] (o1 (bnf c1370) (o1 (decide_eq_false c1371) (o1 (decide_eq_false c1372) (o1 (decide_eq_false c1373) (o1 (decide_eq_false c1374) (o1 (bnt (decide_eq_false c1375)) on)))))) (by kernel_rfl)
  · replace h := (if_neg c1370).symm.trans h
    by_cases c1462 : a0.f5.f0 = 0
    · replace h := (if_pos c1462).symm.trans h
      by_cases c1463 : a0.f5.f1 = 0
      · replace h := (if_pos c1463).symm.trans h
        by_cases c1464 : (a0.f5.f2.length : Int) = 0
        · replace h := (if_pos c1464).symm.trans h
          cases h
          exact byRet MX Tryz.func163 1000 [.b true, .dec 16 true, .dec 21 true, .dec 27 true, .fin] (o1 (bnt (eqf c1370)) (o1 (decide_eq_true c1462) (o1 (decide_eq_true c1463) (o1 (decide_eq_true c1464) on)))) (by kernel_rfl)
        · replace h := (if_neg c1464).symm.trans h
          cases h
          exact byRet MX Tryz.func163 1000 [.b true, .dec 16 true, .dec 21 true, .dec 27 false, .fin] (o1 (bnt (eqf c1370)) (o1 (decide_eq_true c1462) (o1 (decide_eq_true c1463) (o1 (decide_eq_false c1464) on)))) (by kernel_rfl)
      · replace h := (if_neg c1463).symm.trans h
        cases h
        exact byRet MX Tryz.func163 1000 [.b true, .dec 16 true, .dec 21 false, .fin] (o1 (bnt (eqf c1370)) (o1 (decide_eq_true c1462) (o1 (decide_eq_false c1463) on))) (by kernel_rfl)
    · replace h := (if_neg c1462).symm.trans h
      cases h
      exact byRet MX Tryz.func163 1000 [.b true, .dec 16 false, .fin] (o1 (bnt (eqf c1370)) (o1 (decide_eq_false c1462) on)) (by kernel_rfl)

/-! ### impl_JobsOk: function 93 -/
def impl_JobsOk.f (k : Nat) (a0 : S48) : Option Bool := (impl_jobsOk.f k a0 false).bind fun t465 => some t465
theorem impl_JobsOk.go : Callable Tryz.prog 93 := ⟨_, Tryz.func93, by kernel_rfl, rfl⟩
theorem impl_JobsOk.ok (k : Nat) (a0 : S48) (r : Bool) (h : impl_JobsOk.f k a0 = some r) : VCalls Tryz.prog 93 [.agg (e48 a0)] [.c (.p (.sc (.bool r)))] := by
  unfold impl_JobsOk.f at h
  refine VCalls.of (fn := Tryz.f93) (N := 5) Tryz.func93 rfl rfl (fun w0 => ?_)
  obtain ⟨t465, g1465, h⟩ := bindN h
  let C1465 := mkCon (impl_jobsOk.ok k a0 false t465 g1465) impl_jobsOk.go
  cases h
  exact byRet MX Tryz.func93 1000 [.call C1465, .fin] (oa (sc_ C1465) on) (by kernel_rfl)

/-! ### impl_areFree_1: function 164 -/
def impl_areFree_1.f (a0 : Int) (a1 : S38) : Option Bool := (impl_isFree.f a1 a0).bind fun t468 => some (!t468)
theorem impl_areFree_1.go : Callable Tryz.prog 164 := ⟨_, Tryz.func164, by kernel_rfl, rfl⟩
theorem impl_areFree_1.ok (a0 : Int) (a1 : S38) (r : Bool) (h : impl_areFree_1.f a0 a1 = some r) : VCalls Tryz.prog 164 [.c (.sc (.int .i64 a0)), .ptr [.sc (.int .i64 a1.f0), .sc (.int .i64 a1.f1), .sc (.string a1.f2)]] [.c (.p (.sc (.bool r)))] := by
  unfold impl_areFree_1.f at h
  refine VCalls.of (fn := Tryz.f164) (N := 8) Tryz.func164 rfl rfl (fun w0 => ?_)
  obtain ⟨t468, g1470, h⟩ := bindN h
  let C1470 := mkCon (impl_isFree.ok a1 a0 t468 g1470) impl_isFree.go
  cases h
  exact byRet MX Tryz.func164 1000 [.call C1470, .fin] (oa (sc_ C1470) on) (by kernel_rfl)

/-! ### impl_areFree: function 94 -/
def impl_areFree.f (k : Nat) (a0 : S38) (a1 : List Int) : Option Bool := (impl_GridOk.f k a0).bind fun t467 => if t467 = true then ((slices_ContainsFunc_int_int_3.f k a1 (fun x1471 => impl_areFree_1.f x1471 a0)).bind fun t469 => some (!t469)) else (some false)
theorem impl_areFree.go : Callable Tryz.prog 94 := ⟨_, Tryz.func94, by kernel_rfl, rfl⟩
theorem impl_areFree.ok (k : Nat) (a0 : S38) (a1 : List Int) (r : Bool) (h : impl_areFree.f k a0 a1 = some r) : VCalls Tryz.prog 94 [.agg (e38 a0), .c (R 1 (eI .i64) 0 a1)] [.c (.p (.sc (.bool r)))] := by
  unfold impl_areFree.f at h
  refine VCalls.of (fn := Tryz.f94) (N := 13) Tryz.func94 rfl rfl (fun w0 => ?_)
  obtain ⟨t467, g1468, h⟩ := bindN h
  let C1468 := mkCon (impl_GridOk.ok k a0 t467 g1468) impl_GridOk.go
  by_cases c1469 : t467 = true
  · replace h := (if_pos c1469).symm.trans h
    obtain ⟨t469, g1472, h⟩ := bindN h
    let C1472 := mkCon (slices_ContainsFunc_int_int_3.ok k a1 (fun x1471 => impl_areFree_1.f x1471 a0) 164 (.sc (.int .i64 a0.f0)) (.sc (.int .i64 a0.f1)) (.sc (.string a0.f2)) (fun x1471 r h => impl_areFree_1.ok x1471 a0 r h) impl_areFree_1.go t469 g1472) slices_ContainsFunc_int_int_3.go
    cases h
    exact byRet MX Tryz.func94 1000 [.call C1468, .dec 7 true, .call C1472, .fin] (oa (sc_ C1468) (o1 c1469 (oa (sc_ C1472) on))) (by kernel_rfl)
  · replace h := (if_neg c1469).symm.trans h
    cases h
    exact byRet MX Tryz.func94 1000 [.call C1468, .dec 7 false, .fin] (oa (sc_ C1468) (o1 (eqf c1469) on)) (by kernel_rfl)

/-! ### impl_isAscending: function 95 -/
def impl_isAscending.h0T (a0 : List Int) (v471 : Int) : List (Nat × AV) := [(0, .t (.c (.p false (R 1 (eI .i64) 0 a0)))), (3, .t (.c (.p true (.sc (.int .i64 v471)))))]
def impl_isAscending.h0H (a0 : List Int) (v471 : Int) : List (Nat × Content) := []
def impl_isAscending.l0 : Nat → List Int → Int → Option Bool
  | 0, _, _ => none
  | kq + 1, a0, v471 => if v471 < (a0.length : Int) then (if 0 ≤ (w64 (v471 - 1)) then (if (w64 (v471 - 1)) < (a0.length : Int) then (if 0 ≤ v471 then (if (rdD 0 a0 v471) ≤ (rdD 0 a0 (w64 (v471 - 1))) then (some false) else (impl_isAscending.l0 kq a0 (w64 (v471 + 1)))) else none) else none) else none) else (some true)
def impl_isAscending.f (k : Nat) (a0 : List Int) : Option Bool := impl_isAscending.l0 k a0 1
theorem impl_isAscending.go : Callable Tryz.prog 95 := ⟨_, Tryz.func95, by kernel_rfl, rfl⟩
theorem impl_isAscending.ok (k : Nat) (a0 : List Int) (r : Bool) (h : impl_isAscending.f k a0 = some r) : VCalls Tryz.prog 95 [.c (R 1 (eI .i64) 0 a0)] [.c (.p (.sc (.bool r)))] := by
  unfold impl_isAscending.f at h
  refine VCalls.of (fn := Tryz.f95) (N := 20) Tryz.func95 rfl rfl (fun w0 => ?_)
  have H0 : ∀ (kq : Nat) (v471 : Int), impl_isAscending.l0 kq a0 v471 = some r → AG Tryz.prog 95 20 [.c (.p (.sc (.bool r)))] w0 (headStk (codeOf Tryz.f95) 0) (mkFS (impl_isAscending.h0T a0 v471) (impl_isAscending.h0H a0 v471)) := by
    intro kq
    induction kq with
    | zero => intro v471 h; cases h
    | succ kq ih =>
      intro v471 h
      rw [impl_isAscending.l0] at h
      by_cases c1479 : v471 < (a0.length : Int)
      · replace h := (if_pos c1479).symm.trans h
        obtain ⟨c1480, h⟩ := ifN h
        obtain ⟨c1481, h⟩ := ifN h
        obtain ⟨c1482, h⟩ := ifN h
        by_cases c1483 : (rdD 0 a0 v471) ≤ (rdD 0 a0 (w64 (v471 - 1)))
        · replace h := (if_pos c1483).symm.trans h
          cases h
          exact byRet MX Tryz.func95 1000 [.b true, .b true, .fin] (o1 (decide_eq_true c1479) (o1 c1480 (o1 c1481 (o1 c1482 (o1 c1479 (o1 (decide_eq_true c1483) on)))))) (by kernel_rfl)
        · replace h := (if_neg c1483).symm.trans h
          exact byHead MX Tryz.func95 1000 [.b true, .b false, .fin] (o1 (decide_eq_true c1479) (o1 c1480 (o1 c1481 (o1 c1482 (o1 c1479 (o1 (decide_eq_false c1483) on)))))) (ih (w64 (v471 + 1)) h) (by kernel_rfl)
      · replace h := (if_neg c1479).symm.trans h
        cases h
        exact byRet MX Tryz.func95 1000 [.b false, .fin, .fin] (o1 (decide_eq_false c1479) on) (by kernel_rfl)
  exact byHead MX Tryz.func95 1000 [.fin] on (H0 k 1 h) (by kernel_rfl)

/-! ### impl_CellsUsed: function 165 -/
def impl_CellsUsed.h0T (a0 : List S72) (v475 : Int) (v474 : List Int) : List (Nat × AV) := [(3, .t (.c (.h 320192))), (6, .t (.c (.p false (R 1 e72 z72 a0)))), (7, .t (.c (.p true (.sc (.int .i64 (a0.length : Int)))))), (8, .t (.c (.p true (.sc (.int .i64 v475)))))]
def impl_CellsUsed.h0H (a0 : List S72) (v475 : Int) (v474 : List Int) : List (Nat × Content) := [(320192, .row 3 1 v474.length (fun j => (eI .i64) (v474.getD j 0)) true)]
def impl_CellsUsed.l0 : Nat → List S72 → List Int → Int → Option (List Int)
  | 0, _, _, _ => none
  | kq + 1, a0, v474, v475 => if v475 < (a0.length : Int) then (if 0 ≤ v475 then (if (v474.length + ((rdD z72 a0 v475).f0).length) * 8 ≤ 140737488355328 then (impl_CellsUsed.l0 kq a0 (v474 ++ (rdD z72 a0 v475).f0) (w64 (v475 + 1))) else none) else none) else ((AvOrd.impl_ordered.f v474).bind fun t476 => some t476)
def impl_CellsUsed.f (k : Nat) (a0 : List S72) : Option (List Int) := impl_CellsUsed.l0 k a0 ([] : List Int) 0
theorem impl_CellsUsed.go : Callable Tryz.prog 165 := ⟨_, Tryz.func165, by kernel_rfl, rfl⟩
theorem impl_CellsUsed.ok (k : Nat) (a0 : List S72) (r : (List Int)) (h : impl_CellsUsed.f k a0 = some r) : VCalls Tryz.prog 165 [.c (R 1 e72 z72 a0)] [.c (.own 3 1 r.length (fun j => (eI .i64) (r.getD j 0)))] := by
  unfold impl_CellsUsed.f at h
  refine VCalls.of (fn := Tryz.f165) (N := 19) Tryz.func165 rfl rfl (fun w0 => ?_)
  have H0 : ∀ (kq : Nat) (v474 : List Int) (v475 : Int), impl_CellsUsed.l0 kq a0 v474 v475 = some r → AG Tryz.prog 165 19 [.c (.own 3 1 r.length (fun j => (eI .i64) (r.getD j 0)))] w0 (headStk (codeOf Tryz.f165) 0) (mkFS (impl_CellsUsed.h0T a0 v475 v474) (impl_CellsUsed.h0H a0 v475 v474)) := by
    intro kq
    induction kq with
    | zero => intro v474 v475 h; cases h
    | succ kq ih =>
      intro v474 v475 h
      rw [impl_CellsUsed.l0] at h
      by_cases c1495 : v475 < (a0.length : Int)
      · replace h := (if_pos c1495).symm.trans h
        obtain ⟨c1496, h⟩ := ifN h
        obtain ⟨c1497, h⟩ := ifN h
        exact byHead MX Tryz.func165 1000 [.b true, .aft 15, orow 320192 (eI .i64) 0 (v474 ++ (rdD z72 a0 v475).f0), .reg 6, .flat 320192, .fin] (o1 (decide_eq_true c1495) (o1 c1496 (o1 c1495 (o1 c1497 (o1 (GE.app (e := (eI .i64)) (d := 0) v474 ((rdD z72 a0 v475).f0) rfl (fun _ _ => CE.refl _) rfl) (o1 (SC.of (e := (eI .i64)) (d := 0) (v474 ++ (rdD z72 a0 v475).f0) (by intro x; rfl)) on)))))) (ih (v474 ++ (rdD z72 a0 v475).f0) (w64 (v475 + 1)) h) (by kernel_rfl)
      · replace h := (if_neg c1495).symm.trans h
        obtain ⟨t476, g1498, h⟩ := bindN h
        let C1498 := AvOrd.impl_ordered.con v474 t476 g1498
        cases h
        exact byRet MX Tryz.func165 1000 [.b false, .fin, .callM C1498, .aft 18, orow 320192 (eI .i64) 0 r, .fin] (o1 (decide_eq_false c1495) (o1 (rfl : C1498.f = C1498.f) (o1 (rfl : C1498.e = C1498.e) (o1 (AvOrd.sc_in v474) (o1 (AvOrd.sc_out r) on))))) (by kernel_rfl)
  exact byHead MX Tryz.func165 1000 [.fin, .nil 3 320192 3 1, orow 320192 (eI .i64) 0 ([] : List Int)] (o1 (GE.nil (eI .i64) 0) on) (H0 k ([] : List Int) 0 h) (by kernel_rfl)

/-! ### impl_Footprint: function 96 -/
def impl_Footprint.f (k : Nat) (a0 : S48) : Option (List Int) := if a0.f4 = true then ((impl_CellsUsed.f k a0.f5.f2).bind fun t477 => some t477) else (some ([] : List Int))
theorem impl_Footprint.go : Callable Tryz.prog 96 := ⟨_, Tryz.func96, by kernel_rfl, rfl⟩
theorem impl_Footprint.ok (k : Nat) (a0 : S48) (r : (List Int)) (h : impl_Footprint.f k a0 = some r) : VCalls Tryz.prog 96 [.agg (e48 a0)] [.c (.own 3 1 r.length (fun j => (eI .i64) (r.getD j 0)))] := by
  unfold impl_Footprint.f at h
  refine VCalls.of (fn := Tryz.f96) (N := 10) Tryz.func96 rfl rfl (fun w0 => ?_)
  by_cases c1487 : a0.f4 = true
  · replace h := (if_pos c1487).symm.trans h
    obtain ⟨t477, g1499, h⟩ := bindN h
    let C1499 := mkCon (impl_CellsUsed.ok k a0.f5.f2 t477 g1499) impl_CellsUsed.go
    cases h
    exact byRet MX Tryz.func96 1000 [.b false, .call C1499, .fin] (o1 (bnf c1487) (oa (sc_ C1499) on)) (by kernel_rfl)
  · replace h := (if_neg c1487).symm.trans h
    cases h
    exact byRet MX Tryz.func96 1000 [.b true, .fin, .nil 2 384128 3 1, orow 384128 (eI .i64) 0 ([] : List Int)] (o1 (bnt (eqf c1487)) (o1 (GE.nil (eI .i64) 0) on)) (by kernel_rfl)

/-! ### impl_FreeCells: function 180 -/
def impl_FreeCells.h0T (a0 : S38) (v485 : Nat) (v484 : List Int) : List (Nat × AV) := [(1, .ptr 64 0), (3, .t (.c (.h 320192))), (10, .ptr 640 0)]
def impl_FreeCells.h0H (a0 : S38) (v485 : Nat) (v484 : List Int) : List (Nat × Content) := [(64, .box 38 [.p false (.sc (.int .i64 a0.f0)), .p false (.sc (.int .i64 a0.f1)), .p false (.sc (.string a0.f2))]), (640, .iter a0.f2 v485), (320192, .row 3 1 v484.length (fun j => (eI .i64) (v484.getD j 0)) true)]
def impl_FreeCells.l0 : Nat → S38 → List Int → Nat → Option (List Int)
  | 0, _, _, _ => none
  | kq + 1, a0, v484, v485 => if v485 < a0.f2.size then ((impl_isFree.f a0 ((v485 : Nat) : Int)).bind fun t486 => if t486 = true then (if (v484.length + 1) * 8 ≤ 140737488355328 then (impl_FreeCells.l0 kq a0 (v484 ++ [((v485 : Nat) : Int)]) (v485 + (Utf8.decode a0.f2 v485).2)) else none) else (impl_FreeCells.l0 kq a0 v484 (v485 + (Utf8.decode a0.f2 v485).2))) else (some v484)
def impl_FreeCells.f (k : Nat) (a0 : S38) : Option (List Int) := (impl_GridOk.f k a0).bind fun t479 => if t479 = true then (impl_FreeCells.l0 k a0 ([] : List Int) 0) else (some ([] : List Int))
theorem impl_FreeCells.go : Callable Tryz.prog 180 := ⟨_, Tryz.func180, by kernel_rfl, rfl⟩
theorem impl_FreeCells.ok (k : Nat) (a0 : S38) (r : (List Int)) (h : impl_FreeCells.f k a0 = some r) : VCalls Tryz.prog 180 [.agg (e38 a0)] [.c (.own 3 1 r.length (fun j => (eI .i64) (r.getD j 0)))] := by
  unfold impl_FreeCells.f at h
  refine VCalls.of (fn := Tryz.f180) (N := 22) Tryz.func180 rfl rfl (fun w0 => ?_)
  obtain ⟨t479, g1501, h⟩ := bindN h
  let C1501 := mkCon (impl_GridOk.ok k a0 t479 g1501) impl_GridOk.go
  by_cases c1502 : t479 = true
  · replace h := (if_pos c1502).symm.trans h
    have H0 : ∀ (kq : Nat) (v484 : List Int) (v485 : Nat), impl_FreeCells.l0 kq a0 v484 v485 = some r → AG Tryz.prog 180 22 [.c (.own 3 1 r.length (fun j => (eI .i64) (r.getD j 0)))] w0 (headStk (codeOf Tryz.f180) 0) (mkFS (impl_FreeCells.h0T a0 v485 v484) (impl_FreeCells.h0H a0 v485 v484)) := by
      intro kq
      induction kq with
      | zero => intro v484 v485 h; cases h
      | succ kq ih =>
        intro v484 v485 h
        rw [impl_FreeCells.l0] at h
        by_cases c1515 : v485 < a0.f2.size
        · replace h := (if_pos c1515).symm.trans h
          obtain ⟨t486, g1516, h⟩ := bindN h
          let C1516 := mkCon (impl_isFree.ok a0 ((v485 : Nat) : Int) t486 g1516) impl_isFree.go
          by_cases c1517 : t486 = true
          · replace h := (if_pos c1517).symm.trans h
            obtain ⟨c1518, h⟩ := ifN h
            exact byHead MX Tryz.func180 1000 [.dec 11 true, .b true, .call C1516, .b true, rowe 19 (eI .i64) 0 ([((v485 : Nat) : Int)]), .aft 20, orow 320192 (eI .i64) 0 (v484 ++ [((v485 : Nat) : Int)]), .fin] (o1 c1515 (o1 (rfl : true = true) (oa (sc_ C1516) (o1 c1517 (o1 (GE.lit 1 (eI .i64) 0 [((v485 : Nat) : Int)] (by intro x; rfl)) (o1 c1518 (o1 (GE.app (e := (eI .i64)) (d := 0) v484 ([((v485 : Nat) : Int)]) rfl (fun _ _ => CE.refl _) rfl) on))))))) (ih (v484 ++ [((v485 : Nat) : Int)]) (v485 + (Utf8.decode a0.f2 v485).2) h) (by kernel_rfl)
          · replace h := (if_neg c1517).symm.trans h
            exact byHead MX Tryz.func180 1000 [.dec 11 true, .b true, .call C1516, .b false, .fin] (o1 c1515 (o1 (rfl : true = true) (oa (sc_ C1516) (o1 (eqf c1517) on)))) (ih v484 (v485 + (Utf8.decode a0.f2 v485).2) h) (by kernel_rfl)
        · replace h := (if_neg c1515).symm.trans h
          cases h
          exact byRet MX Tryz.func180 1000 [.dec 11 false, .b false, .fin, .fin] (o1 c1515 (o1 (rfl : false = false) on)) (by kernel_rfl)
    exact byHead MX Tryz.func180 1000 [.call C1501, .b false, .fin, .nil 3 320192 3 1, orow 320192 (eI .i64) 0 ([] : List Int)] (oa (sc_ C1501) (o1 (bnf c1502) (o1 (GE.nil (eI .i64) 0) on))) (H0 k ([] : List Int) 0 h) (by kernel_rfl)
  · replace h := (if_neg c1502).symm.trans h
    cases h
    exact byRet MX Tryz.func180 1000 [.call C1501, .b true, .fin, .nil 2 384128 3 1, orow 384128 (eI .i64) 0 ([] : List Int)] (oa (sc_ C1501) (o1 (bnt (eqf c1502)) (o1 (GE.nil (eI .i64) 0) on))) (by kernel_rfl)

/-! ### impl_Walled: function 179 -/
def impl_Walled.h0T (a1 : List Int) (a0 : S38) (v492 : Int) (v491 : List Int) : List (Nat × AV) := [(1, .t (.c (.p false (R 1 (eI .i64) 0 a1)))), (2, .ptr 128 0), (4, .ptr 256 0), (5, .t (.c (.h 832))), (15, .t (.c (.p true (.sc (.int .i64 ((bytesOf a0.f2).length : Int)))))), (16, .t (.c (.p true (.sc (.int .i64 v492)))))]
def impl_Walled.h0H (a1 : List Int) (a0 : S38) (v492 : Int) (v491 : List Int) : List (Nat × Content) := [(128, .box 38 [.p false (.sc (.int .i64 a0.f0)), .p false (.sc (.int .i64 a0.f1)), .p false (.sc (.string a0.f2))]), (256, .box 38 [.p true (.sc (.int .i64 0)), .p true (.sc (.int .i64 0)), .p true (.sc (.string (⟨#[]⟩ : ByteArray)))]), (832, .row 1099511627781 1 v491.length (fun j => (eI .u8) (v491.getD j 0)) true)]
def impl_Walled.l0 : Nat → S38 → List Int → List Int → Int → Option S38
  | 0, _, _, _, _ => none
  | kq + 1, a0, a1, v491, v492 => if v492 < ((bytesOf a0.f2).length : Int) then ((slices_Contains_int_int.f kq a1 v492).bind fun t493 => if t493 = true then (if 0 ≤ v492 then (if v492 < (v491.length : Int) then (impl_Walled.l0 kq a0 a1 (v491.set v492.toNat 35) (w64 (v492 + 1))) else none) else none) else (impl_Walled.l0 kq a0 a1 v491 (w64 (v492 + 1)))) else (if isBytes v491 = true then (some (⟨a0.f0, a0.f1, (strOf v491)⟩ : S38)) else none)
def impl_Walled.f (k : Nat) (a0 : S38) (a1 : List Int) : Option S38 := (impl_GridOk.f k a0).bind fun t487 => if t487 = true then (if a0.f2.size ≤ maxLen then (impl_Walled.l0 k a0 a1 (bytesOf a0.f2) 0) else none) else (some a0)
theorem impl_Walled.go : Callable Tryz.prog 179 := ⟨_, Tryz.func179, by kernel_rfl, rfl⟩
theorem impl_Walled.ok (k : Nat) (a0 : S38) (a1 : List Int) (r : S38) (h : impl_Walled.f k a0 a1 = some r) : VCalls Tryz.prog 179 [.agg (e38 a0), .c (R 1 (eI .i64) 0 a1)] [.agg (r38 r)] := by
  unfold impl_Walled.f at h
  refine VCalls.of (fn := Tryz.f179) (N := 33) Tryz.func179 rfl rfl (fun w0 => ?_)
  obtain ⟨t487, g1519, h⟩ := bindN h
  let C1519 := mkCon (impl_GridOk.ok k a0 t487 g1519) impl_GridOk.go
  by_cases c1520 : t487 = true
  · replace h := (if_pos c1520).symm.trans h
    obtain ⟨c1521, h⟩ := ifN h
    have H0 : ∀ (kq : Nat) (v491 : List Int) (v492 : Int), impl_Walled.l0 kq a0 a1 v491 v492 = some r → AG Tryz.prog 179 33 [.agg (r38 r)] w0 (headStk (codeOf Tryz.f179) 0) (mkFS (impl_Walled.h0T a1 a0 v492 v491) (impl_Walled.h0H a1 a0 v492 v491)) := by
      intro kq
      induction kq with
      | zero => intro v491 v492 h; cases h
      | succ kq ih =>
        intro v491 v492 h
        rw [impl_Walled.l0] at h
        by_cases c1529 : v492 < ((bytesOf a0.f2).length : Int)
        · replace h := (if_pos c1529).symm.trans h
          obtain ⟨t493, g1530, h⟩ := bindN h
          let C1530 := mkCon (slices_Contains_int_int.ok kq a1 v492 t493 g1530) slices_Contains_int_int.go
          by_cases c1531 : t493 = true
          · replace h := (if_pos c1531).symm.trans h
            obtain ⟨c1532, h⟩ := ifN h
            obtain ⟨c1533, h⟩ := ifN h
            exact byHead MX Tryz.func179 1000 [.b true, .call C1530, .b true, .aft 999999, orow 832 (eI .u8) 0 (v491.set v492.toNat 35), .fin] (o1 (decide_eq_true c1529) (oa (sc_ C1530) (o1 c1531 (o1 c1532 (o1 c1533 (o1 (GE.set (e := (eI .u8)) (d := 0) v491 v492.toNat 35 (lt_toNat c1532 c1533) rfl) on)))))) (ih (v491.set v492.toNat 35) (w64 (v492 + 1)) h) (by kernel_rfl)
          · replace h := (if_neg c1531).symm.trans h
            exact byHead MX Tryz.func179 1000 [.b true, .call C1530, .b false, .fin] (o1 (decide_eq_true c1529) (oa (sc_ C1530) (o1 (eqf c1531) on))) (ih v491 (w64 (v492 + 1)) h) (by kernel_rfl)
        · replace h := (if_neg c1529).symm.trans h
          obtain ⟨c1534, h⟩ := ifN h
          cases h
          exact byRet MX Tryz.func179 1000 [.b false, .fin, .cst 31 (.sc (.string (strOf v491))), .fin] (o1 (decide_eq_false c1529) (o1 (ByOk.of c1534) (o1 (VE.str v491) on))) (by kernel_rfl)
    exact byHead MX Tryz.func179 1000 [.call C1519, .b false, rowe 13 (eI .u8) 0 (bytesOf a0.f2), .fin] (oa (sc_ C1519) (o1 (bnf c1520) (o1 c1521 (o1 (GE.bytes a0.f2) on)))) (H0 k (bytesOf a0.f2) 0 h) (by kernel_rfl)
  · replace h := (if_neg c1520).symm.trans h
    cases h
    exact byRet MX Tryz.func179 1000 [.call C1519, .b true, .fin] (oa (sc_ C1519) (o1 (bnt (eqf c1520)) on)) (by kernel_rfl)

/-! ### impl_onlyCells: function 98 -/
def impl_onlyCells.f (k : Nat) (a0 : S38) (a1 : List Int) : Option S38 := (impl_FreeCells.f k a0).bind fun v => (AvDel.del.f a1 v).bind fun u => impl_Walled.f k a0 u
theorem impl_onlyCells.go : Callable Tryz.prog 98 := ⟨_, Tryz.func98, by kernel_rfl, rfl⟩
theorem impl_onlyCells.ok (k : Nat) (a0 : S38) (a1 : List Int) (r : S38) (h : impl_onlyCells.f k a0 a1 = some r) : VCalls Tryz.prog 98 [.agg (e38 a0), .c (R 1 (eI .i64) 0 a1)] [.agg (r38 r)] := by
  unfold impl_onlyCells.f at h
  refine VCalls.of (fn := Tryz.f98) (N := 11) Tryz.func98 rfl rfl (fun w0 => ?_)
  obtain ⟨v, g1, h⟩ := bindN h
  obtain ⟨u, g2, h⟩ := bindN h
  let C1 := mkCon (impl_FreeCells.ok k a0 v g1) impl_FreeCells.go
  let C2 := AvDel.del.con a1 v u g2
  let C3 := mkCon (impl_Walled.ok k a0 u r h) impl_Walled.go
  have b2 := sc_ C1
  have b4 := o1 (rfl : C2.f = C2.f) (o1 (rfl : C2.e = C2.e) (o1 (AvOrd.sc_in v) (o1 (rfl : 181 = 181) (o1 (VE.refl (rowI .i64 a1)) on))))
  have b5 := o1 (rfl : C3.f = C3.f) (o1 (VE.refl (.sc (.int .i64 a0.f0))) (o1 (VE.refl (.sc (.int .i64 a0.f1))) (o1 (VE.refl (.sc (.string a0.f2))) (o1 (VE.row (z := 1) (AvOrd.sc_out u)) on))))
  have lf := selfS_ok [(4, .ptr 256 0)] [(256, .box 38 [.p true (.sc (.int .i64 r.f0)), .p true (.sc (.int .i64 r.f1)), .p true (.sc (.string r.f2))])]
  have n1 := (oa lf on)
  have n2 := (oa (oa b5 n1) on)
  have n3 := (oa n2 on)
  have n4 := (oa (oa b4 n2) on)
  have n5 := (oa n4 (oa (oa b4 n3) on))
  have n6 := (oa (oa b2 n4) on)
  have n7 := (oa n6 (oa (oa b2 n5) on))
  have n8 := (oa n6 on)
  have n9 := (oa n8 (oa n7 on))
  have n10 := (oa n4 on)
  have n11 := (oa n10 (oa n5 on))
  have n12 := (oa (oa b2 n10) (oa n6 on))
  have n13 := (oa n12 (oa (oa b2 n11) (oa n7 on)))
  have n14 := (oa n12 (oa n8 on))
  have n15 := (oa n14 (oa n13 (oa n9 on)))
  exact byRet MX Tryz.func98 1000 [.anyR 6 [(4, .ptr 256 0)] [(256, .box 38 [.p true (.sc (.int .i64 r.f0)), .p true (.sc (.int .i64 r.f1)), .p true (.sc (.string r.f2))])], .reg 2, .call C1, .reg 4, .callM C2, .reg 5, .call C3, .fin] (oa n15 on) (by kernel_rfl)


/-! ### impl_firstCells: function 99 -/
def impl_firstCells.h0T (a0 : List S72) (v497 : Int) (v496 : List Int) : List (Nat × AV) := [(3, .t (.c (.h 320192))), (6, .t (.c (.p false (R 1 e72 z72 a0)))), (7, .t (.c (.p true (.sc (.int .i64 (a0.length : Int)))))), (8, .t (.c (.p true (.sc (.int .i64 v497)))))]
def impl_firstCells.h0H (a0 : List S72) (v497 : Int) (v496 : List Int) : List (Nat × Content) := [(320192, .row 3 1 v496.length (fun j => (eI .i64) (v496.getD j 0)) true)]
def impl_firstCells.l0 : Nat → List S72 → List Int → Int → Option (List Int)
  | 0, _, _, _ => none
  | kq + 1, a0, v496, v497 => if v497 < (a0.length : Int) then (if 0 ≤ v497 then (if 0 < (((rdD z72 a0 v497).f0).length : Int) then (if (v496.length + 1) * 8 ≤ 140737488355328 then (impl_firstCells.l0 kq a0 (v496 ++ [(rdD 0 ((rdD z72 a0 v497).f0) 0)]) (w64 (v497 + 1))) else none) else none) else none) else (some v496)
def impl_firstCells.f (k : Nat) (a0 : List S72) : Option (List Int) := impl_firstCells.l0 k a0 ([] : List Int) 0
theorem impl_firstCells.go : Callable Tryz.prog 99 := ⟨_, Tryz.func99, by kernel_rfl, rfl⟩
theorem impl_firstCells.ok (k : Nat) (a0 : List S72) (r : (List Int)) (h : impl_firstCells.f k a0 = some r) : VCalls Tryz.prog 99 [.c (R 1 e72 z72 a0)] [.c (.own 3 1 r.length (fun j => (eI .i64) (r.getD j 0)))] := by
  unfold impl_firstCells.f at h
  refine VCalls.of (fn := Tryz.f99) (N := 21) Tryz.func99 rfl rfl (fun w0 => ?_)
  have H0 : ∀ (kq : Nat) (v496 : List Int) (v497 : Int), impl_firstCells.l0 kq a0 v496 v497 = some r → AG Tryz.prog 99 21 [.c (.own 3 1 r.length (fun j => (eI .i64) (r.getD j 0)))] w0 (headStk (codeOf Tryz.f99) 0) (mkFS (impl_firstCells.h0T a0 v497 v496) (impl_firstCells.h0H a0 v497 v496)) := by
    intro kq
    induction kq with
    | zero => intro v496 v497 h; cases h
    | succ kq ih =>
      intro v496 v497 h
      rw [impl_firstCells.l0] at h
      by_cases c1546 : v497 < (a0.length : Int)
      · replace h := (if_pos c1546).symm.trans h
        obtain ⟨c1547, h⟩ := ifN h
        obtain ⟨c1548, h⟩ := ifN h
        obtain ⟨c1549, h⟩ := ifN h
        exact byHead MX Tryz.func99 1000 [.b true, rowe 17 (eI .i64) 0 ([(rdD 0 ((rdD z72 a0 v497).f0) 0)]), .aft 18, orow 320192 (eI .i64) 0 (v496 ++ [(rdD 0 ((rdD z72 a0 v497).f0) 0)]), .fin] (o1 (decide_eq_true c1546) (o1 c1547 (o1 c1546 (o1 (by decide : (0 : Int) ≤ 0) (o1 c1548 (o1 (GE.lit 1 (eI .i64) 0 [(rdD 0 ((rdD z72 a0 v497).f0) 0)] (by intro x; rfl)) (o1 c1549 (o1 (GE.app (e := (eI .i64)) (d := 0) v496 ([(rdD 0 ((rdD z72 a0 v497).f0) 0)]) rfl (fun _ _ => CE.refl _) rfl) on)))))))) (ih (v496 ++ [(rdD 0 ((rdD z72 a0 v497).f0) 0)]) (w64 (v497 + 1)) h) (by kernel_rfl)
      · replace h := (if_neg c1546).symm.trans h
        cases h
        exact byRet MX Tryz.func99 1000 [.b false, .fin, .fin] (o1 (decide_eq_false c1546) on) (by kernel_rfl)
  exact byHead MX Tryz.func99 1000 [.fin, .nil 3 320192 3 1, orow 320192 (eI .i64) 0 ([] : List Int)] (o1 (GE.nil (eI .i64) 0) on) (H0 k ([] : List Int) 0 h) (by kernel_rfl)

/-! ### impl_EndsOf: function 166 -/
def impl_EndsOf.h0T (a0 : List S72) (v501 : Int) (v500 : List Int) : List (Nat × AV) := [(3, .t (.c (.h 320192))), (6, .t (.c (.p false (R 1 e72 z72 a0)))), (7, .t (.c (.p true (.sc (.int .i64 (a0.length : Int)))))), (8, .t (.c (.p true (.sc (.int .i64 v501)))))]
def impl_EndsOf.h0H (a0 : List S72) (v501 : Int) (v500 : List Int) : List (Nat × Content) := [(320192, .row 3 1 v500.length (fun j => (eI .i64) (v500.getD j 0)) true)]
def impl_EndsOf.l0 : Nat → List S72 → List Int → Int → Option (List Int)
  | 0, _, _, _ => none
  | kq + 1, a0, v500, v501 => if v501 < (a0.length : Int) then (if 0 ≤ v501 then (if 0 < (((rdD z72 a0 v501).f0).length : Int) then (if 0 ≤ (w64 ((((rdD z72 a0 v501).f0).length : Int) - 1)) then (if (w64 ((((rdD z72 a0 v501).f0).length : Int) - 1)) < (((rdD z72 a0 v501).f0).length : Int) then (if (v500.length + 1) * 8 ≤ 140737488355328 then (impl_EndsOf.l0 kq a0 (v500 ++ [(rdD 0 ((rdD z72 a0 v501).f0) (w64 ((((rdD z72 a0 v501).f0).length : Int) - 1)))]) (w64 (v501 + 1))) else none) else none) else none) else (impl_EndsOf.l0 kq a0 v500 (w64 (v501 + 1)))) else none) else ((AvOrd.impl_ordered.f v500).bind fun t502 => some t502)
def impl_EndsOf.f (k : Nat) (a0 : List S72) : Option (List Int) := impl_EndsOf.l0 k a0 ([] : List Int) 0
theorem impl_EndsOf.go : Callable Tryz.prog 166 := ⟨_, Tryz.func166, by kernel_rfl, rfl⟩
theorem impl_EndsOf.ok (k : Nat) (a0 : List S72) (r : (List Int)) (h : impl_EndsOf.f k a0 = some r) : VCalls Tryz.prog 166 [.c (R 1 e72 z72 a0)] [.c (.own 3 1 r.length (fun j => (eI .i64) (r.getD j 0)))] := by
  unfold impl_EndsOf.f at h
  refine VCalls.of (fn := Tryz.f166) (N := 30) Tryz.func166 rfl rfl (fun w0 => ?_)
  have H0 : ∀ (kq : Nat) (v500 : List Int) (v501 : Int), impl_EndsOf.l0 kq a0 v500 v501 = some r → AG Tryz.prog 166 30 [.c (.own 3 1 r.length (fun j => (eI .i64) (r.getD j 0)))] w0 (headStk (codeOf Tryz.f166) 0) (mkFS (impl_EndsOf.h0T a0 v501 v500) (impl_EndsOf.h0H a0 v501 v500)) := by
    intro kq
    induction kq with
    | zero => intro v500 v501 h; cases h
    | succ kq ih =>
      intro v500 v501 h
      rw [impl_EndsOf.l0] at h
      by_cases c1567 : v501 < (a0.length : Int)
      · replace h := (if_pos c1567).symm.trans h
        obtain ⟨c1568, h⟩ := ifN h
        by_cases c1569 : 0 < (((rdD z72 a0 v501).f0).length : Int)
        · replace h := (if_pos c1569).symm.trans h
          obtain ⟨c1570, h⟩ := ifN h
          obtain ⟨c1571, h⟩ := ifN h
          obtain ⟨c1572, h⟩ := ifN h
          exact byHead MX Tryz.func166 1000 [.b true, .b true, rowe 25 (eI .i64) 0 ([(rdD 0 ((rdD z72 a0 v501).f0) (w64 ((((rdD z72 a0 v501).f0).length : Int) - 1)))]), .aft 26, orow 320192 (eI .i64) 0 (v500 ++ [(rdD 0 ((rdD z72 a0 v501).f0) (w64 ((((rdD z72 a0 v501).f0).length : Int) - 1)))]), .fin] (o1 (decide_eq_true c1567) (o1 c1568 (o1 c1567 (o1 (decide_eq_true c1569) (o1 c1570 (o1 c1571 (o1 (GE.lit 1 (eI .i64) 0 [(rdD 0 ((rdD z72 a0 v501).f0) (w64 ((((rdD z72 a0 v501).f0).length : Int) - 1)))] (by intro x; rfl)) (o1 c1572 (o1 (GE.app (e := (eI .i64)) (d := 0) v500 ([(rdD 0 ((rdD z72 a0 v501).f0) (w64 ((((rdD z72 a0 v501).f0).length : Int) - 1)))]) rfl (fun _ _ => CE.refl _) rfl) on))))))))) (ih (v500 ++ [(rdD 0 ((rdD z72 a0 v501).f0) (w64 ((((rdD z72 a0 v501).f0).length : Int) - 1)))]) (w64 (v501 + 1)) h) (by kernel_rfl)
        · replace h := (if_neg c1569).symm.trans h
          exact byHead MX Tryz.func166 1000 [.b true, .b false, .fin] (o1 (decide_eq_true c1567) (o1 c1568 (o1 c1567 (o1 (decide_eq_false c1569) on)))) (ih v500 (w64 (v501 + 1)) h) (by kernel_rfl)
      · replace h := (if_neg c1567).symm.trans h
        obtain ⟨t502, g1573, h⟩ := bindN h
        let C1573 := AvOrd.impl_ordered.con v500 t502 g1573
        cases h
        exact byRet MX Tryz.func166 1000 [.b false, .fin, .callM C1573, .aft 29, orow 320192 (eI .i64) 0 r, .fin] (o1 (decide_eq_false c1567) (o1 (rfl : C1573.f = C1573.f) (o1 (rfl : C1573.e = C1573.e) (o1 (AvOrd.sc_in v500) (o1 (AvOrd.sc_out r) on))))) (by kernel_rfl)
  exact byHead MX Tryz.func166 1000 [.fin, .nil 3 320192 3 1, orow 320192 (eI .i64) 0 ([] : List Int)] (o1 (GE.nil (eI .i64) 0) on) (H0 k ([] : List Int) 0 h) (by kernel_rfl)

/-! ### impl_isAsked: function 212 -/
def impl_isAsked.f (k : Nat) (a0 : S38) (a1 : List Int) (a2 : List Int) : Option Bool := (impl_areFree.f k a0 a1).bind fun t504 => if t504 = true then ((impl_areFree.f k a0 a2).bind fun t505 => if t505 = true then (if (a1.length : Int) < 1 then (some false) else (if 10 < (a1.length : Int) then (some false) else ((impl_isAscending.f k a1).bind fun t506 => if t506 = true then ((impl_isAscending.f k a2).bind fun t507 => if t507 = true then (some (decide ((a2.length : Int) ≤ (a1.length : Int)))) else (some false)) else (some false)))) else (some false)) else (some false)
theorem impl_isAsked.go : Callable Tryz.prog 212 := ⟨_, Tryz.func212, by kernel_rfl, rfl⟩
theorem impl_isAsked.ok (k : Nat) (a0 : S38) (a1 : List Int) (a2 : List Int) (r : Bool) (h : impl_isAsked.f k a0 a1 a2 = some r) : VCalls Tryz.prog 212 [.agg (e38 a0), .c (R 1 (eI .i64) 0 a1), .c (R 1 (eI .i64) 0 a2)] [.c (.p (.sc (.bool r)))] := by
  unfold impl_isAsked.f at h
  refine VCalls.of (fn := Tryz.f212) (N := 40) Tryz.func212 rfl rfl (fun w0 => ?_)
  obtain ⟨t504, g1575, h⟩ := bindN h
  let C1575 := mkCon (impl_areFree.ok k a0 a1 t504 g1575) impl_areFree.go
  by_cases c1576 : t504 = true
  · replace h := (if_pos c1576).symm.trans h
    obtain ⟨t505, g1577, h⟩ := bindN h
    let C1577 := mkCon (impl_areFree.ok k a0 a2 t505 g1577) impl_areFree.go
    by_cases c1578 : t505 = true
    · replace h := (if_pos c1578).symm.trans h
      by_cases c1579 : (a1.length : Int) < 1
      · replace h := (if_pos c1579).symm.trans h
        cases h
        exact byRet MX Tryz.func212 1000 [.call C1575, .dec 11 false, .call C1577, .dec 17 false, .dec 22 true, .b true, .fin] (oa (sc_ C1575) (o1 (bnf c1576) (oa (sc_ C1577) (o1 (bnf c1578) (o1 (decide_eq_true c1579) (o1 (rfl : true = true) on)))))) (by kernel_rfl)
      · replace h := (if_neg c1579).symm.trans h
        by_cases c1580 : 10 < (a1.length : Int)
        · replace h := (if_pos c1580).symm.trans h
          cases h
          exact byRet MX Tryz.func212 1000 [.call C1575, .dec 11 false, .call C1577, .dec 17 false, .dec 22 false, .b true, .fin] (oa (sc_ C1575) (o1 (bnf c1576) (oa (sc_ C1577) (o1 (bnf c1578) (o1 (decide_eq_false c1579) (o1 (decide_eq_true c1580) on)))))) (by kernel_rfl)
        · replace h := (if_neg c1580).symm.trans h
          obtain ⟨t506, g1581, h⟩ := bindN h
          let C1581 := mkCon (impl_isAscending.ok k a1 t506 g1581) impl_isAscending.go
          by_cases c1582 : t506 = true
          · replace h := (if_pos c1582).symm.trans h
            obtain ⟨t507, g1583, h⟩ := bindN h
            let C1583 := mkCon (impl_isAscending.ok k a2 t507 g1583) impl_isAscending.go
            by_cases c1584 : t507 = true
            · replace h := (if_pos c1584).symm.trans h
              cases h
              exact byRet MX Tryz.func212 1000 [.call C1575, .dec 11 false, .call C1577, .dec 17 false, .dec 22 false, .b false, .call C1581, .dec 29 true, .call C1583, .dec 33 true, .fin] (oa (sc_ C1575) (o1 (bnf c1576) (oa (sc_ C1577) (o1 (bnf c1578) (o1 (decide_eq_false c1579) (o1 (decide_eq_false c1580) (oa (sc_ C1581) (o1 c1582 (oa (sc_ C1583) (o1 c1584 on)))))))))) (by kernel_rfl)
            · replace h := (if_neg c1584).symm.trans h
              cases h
              exact byRet MX Tryz.func212 1000 [.call C1575, .dec 11 false, .call C1577, .dec 17 false, .dec 22 false, .b false, .call C1581, .dec 29 true, .call C1583, .dec 33 false, .fin] (oa (sc_ C1575) (o1 (bnf c1576) (oa (sc_ C1577) (o1 (bnf c1578) (o1 (decide_eq_false c1579) (o1 (decide_eq_false c1580) (oa (sc_ C1581) (o1 c1582 (oa (sc_ C1583) (o1 (eqf c1584) on)))))))))) (by kernel_rfl)
          · replace h := (if_neg c1582).symm.trans h
            cases h
            exact byRet MX Tryz.func212 1000 [.call C1575, .dec 11 false, .call C1577, .dec 17 false, .dec 22 false, .b false, .call C1581, .dec 29 false, .fin] (oa (sc_ C1575) (o1 (bnf c1576) (oa (sc_ C1577) (o1 (bnf c1578) (o1 (decide_eq_false c1579) (o1 (decide_eq_false c1580) (oa (sc_ C1581) (o1 (eqf c1582) on)))))))) (by kernel_rfl)
    · replace h := (if_neg c1578).symm.trans h
      cases h
      exact byRet MX Tryz.func212 1000 [.call C1575, .dec 11 false, .call C1577, .dec 17 true, .b true, .fin] (oa (sc_ C1575) (o1 (bnf c1576) (oa (sc_ C1577) (o1 (bnt (eqf c1578)) (o1 (rfl : true = true) on))))) (by kernel_rfl)
  · replace h := (if_neg c1576).symm.trans h
    cases h
    exact byRet MX Tryz.func212 1000 [.call C1575, .dec 11 true, .b true, .fin] (oa (sc_ C1575) (o1 (bnt (eqf c1576)) (o1 (rfl : true = true) on))) (by kernel_rfl)

/-! ### impl_AskOk: function 167 -/
def impl_AskOk.f (k : Nat) (a0 : S38) (a1 : List Int) (a2 : List Int) (a3 : Int) : Option Bool := (impl_isAsked.f k a0 a1 a2).bind fun t508 => if t508 = true then (if 0 ≤ a3 then (if a3 ≤ 20 then ((impl_FreeCells.f k a0).bind fun t509 => some (decide ((w64 ((t509.length : Int) * (w64 (a3 + 1)))) ≤ 240))) else (some false)) else (some false)) else (some false)
theorem impl_AskOk.go : Callable Tryz.prog 167 := ⟨_, Tryz.func167, by kernel_rfl, rfl⟩
theorem impl_AskOk.ok (k : Nat) (a0 : S38) (a1 : List Int) (a2 : List Int) (a3 : Int) (r : Bool) (h : impl_AskOk.f k a0 a1 a2 a3 = some r) : VCalls Tryz.prog 167 [.agg (e38 a0), .c (R 1 (eI .i64) 0 a1), .c (R 1 (eI .i64) 0 a2), .c (.sc (.int .i64 a3))] [.c (.p (.sc (.bool r)))] := by
  unfold impl_AskOk.f at h
  refine VCalls.of (fn := Tryz.f167) (N := 30) Tryz.func167 rfl rfl (fun w0 => ?_)
  obtain ⟨t508, g1585, h⟩ := bindN h
  let C1585 := mkCon (impl_isAsked.ok k a0 a1 a2 t508 g1585) impl_isAsked.go
  by_cases c1586 : t508 = true
  · replace h := (if_pos c1586).symm.trans h
    by_cases c1587 : 0 ≤ a3
    · replace h := (if_pos c1587).symm.trans h
      by_cases c1588 : a3 ≤ 20
      · replace h := (if_pos c1588).symm.trans h
        obtain ⟨t509, g1589, h⟩ := bindN h
        let C1589 := mkCon (impl_FreeCells.ok k a0 t509 g1589) impl_FreeCells.go
        cases h
        exact byRet MX Tryz.func167 1000 [.call C1585, .dec 13 true, .dec 17 true, .dec 21 true, .call C1589, .fin] (oa (sc_ C1585) (o1 c1586 (o1 (decide_eq_true c1587) (o1 (decide_eq_true c1588) (oa (sc_ C1589) on))))) (by kernel_rfl)
      · replace h := (if_neg c1588).symm.trans h
        cases h
        exact byRet MX Tryz.func167 1000 [.call C1585, .dec 13 true, .dec 17 true, .dec 21 false, .fin] (oa (sc_ C1585) (o1 c1586 (o1 (decide_eq_true c1587) (o1 (decide_eq_false c1588) on)))) (by kernel_rfl)
    · replace h := (if_neg c1587).symm.trans h
      cases h
      exact byRet MX Tryz.func167 1000 [.call C1585, .dec 13 true, .dec 17 false, .fin] (oa (sc_ C1585) (o1 c1586 (o1 (decide_eq_false c1587) on))) (by kernel_rfl)
  · replace h := (if_neg c1586).symm.trans h
    cases h
    exact byRet MX Tryz.func167 1000 [.call C1585, .dec 13 false, .fin] (oa (sc_ C1585) (o1 (eqf c1586) on)) (by kernel_rfl)
end Go.Proofs.YtoaknaceaghclaaGreat.V
