/- What each Go function computes, and that the machine does so: printed by a program of this session (avgen.py). -/
import Derived.Test.YtoaknaceaghclaaGreatV9
namespace Go.Proofs.YtoaknaceaghclaaGreat.V
open Go Go.Av Go.Proofs
set_option linter.unusedVariables false
set_option maxRecDepth 100000
/-! ### slices_ContainsFunc_int_int_1: function 102 -/
def slices_ContainsFunc_int_int_1.f (k : Nat) (a0 : List Int) (p1 : Int → Option Bool) : Option Bool := (slices_IndexFunc_int_int_1.f k a0 p1).bind fun t583 => some (decide (0 ≤ t583))
theorem slices_ContainsFunc_int_int_1.go : Callable Tryz.prog 102 := ⟨_, Tryz.func102, by kernel_rfl, rfl⟩
theorem slices_ContainsFunc_int_int_1.ok (k : Nat) (a0 : List Int) (p1 : Int → Option Bool) (gi1 : FuncId) (u1_0_0 : V) (hp1 : ∀ x0 r, p1 x0 = some r → VCalls Tryz.prog gi1 [.c (.sc (.int .i64 x0)), .ptr [u1_0_0]] [.c (.p (.sc (.bool r)))]) (go1 : Callable Tryz.prog gi1) (r : Bool) (h : slices_ContainsFunc_int_int_1.f k a0 p1 = some r) : VCalls Tryz.prog 102 [.c (R 1 (eI .i64) 0 a0), .fn gi1 [[u1_0_0]]] [.c (.p (.sc (.bool r)))] := by
  unfold slices_ContainsFunc_int_int_1.f at h
  refine VCalls.of (fn := Tryz.f102) (N := 9) Tryz.func102 rfl rfl (fun w0 => ?_)
  obtain ⟨t583, g1797, h⟩ := bindN h
  let C1797 := mkCon (slices_IndexFunc_int_int_1.ok k a0 p1 gi1 u1_0_0 hp1 go1 t583 g1797) slices_IndexFunc_int_int_1.go
  cases h
  exact byRet MX Tryz.func102 1000 [.call C1797, .fin] (oa (sc_ C1797) on) (by kernel_rfl)

/-! ### impl_movesAfter: function 218 -/
def impl_movesAfter.h0T (v586 : Int) (v587 : Int) (a0 : S72) : List (Nat × AV) := [(2, .ptr 128 0), (5, .t (.c (.p true (.sc (.int .i64 v586))))), (6, .t (.c (.p true (.sc (.int .i64 v587)))))]
def impl_movesAfter.h0H (v586 : Int) (v587 : Int) (a0 : S72) : List (Nat × Content) := [(128, .box 72 [.p false (R 1 (eI .i64) 0 a0.f0)])]
def impl_movesAfter.l0 : Nat → S72 → Int → Int → Option Int
  | 0, _, _, _ => none
  | kq + 1, a0, v586, v587 => if v587 < (a0.f0.length : Int) then (if 0 ≤ v587 then (if 0 ≤ (w64 (v587 - 1)) then (if (w64 (v587 - 1)) < (a0.f0.length : Int) then (if (rdD 0 a0.f0 v587) = (rdD 0 a0.f0 (w64 (v587 - 1))) then (impl_movesAfter.l0 kq a0 v586 (w64 (v587 + 1))) else (impl_movesAfter.l0 kq a0 (w64 (v586 + 1)) (w64 (v587 + 1)))) else none) else none) else none) else (some v586)
def impl_movesAfter.f (k : Nat) (a0 : S72) (a1 : Int) : Option Int := impl_movesAfter.l0 k a0 0 (w64 ((if 0 > a1 then 0 else a1) + 1))
theorem impl_movesAfter.go : Callable Tryz.prog 218 := ⟨_, Tryz.func218, by kernel_rfl, rfl⟩
theorem impl_movesAfter.ok (k : Nat) (a0 : S72) (a1 : Int) (r : Int) (h : impl_movesAfter.f k a0 a1 = some r) : VCalls Tryz.prog 218 [.agg (e72 a0), .c (.sc (.int .i64 a1))] [.c (.p (.sc (.int .i64 r)))] := by
  unfold impl_movesAfter.f at h
  refine VCalls.of (fn := Tryz.f218) (N := 32) Tryz.func218 rfl rfl (fun w0 => ?_)
  have H0 : ∀ (kq : Nat) (v586 : Int) (v587 : Int), impl_movesAfter.l0 kq a0 v586 v587 = some r → AG Tryz.prog 218 32 [.c (.p (.sc (.int .i64 r)))] w0 (headStk (codeOf Tryz.f218) 0) (mkFS (impl_movesAfter.h0T v586 v587 a0) (impl_movesAfter.h0H v586 v587 a0)) := by
    intro kq
    induction kq with
    | zero => intro v586 v587 h; cases h
    | succ kq ih =>
      intro v586 v587 h
      rw [impl_movesAfter.l0] at h
      by_cases c1811 : v587 < (a0.f0.length : Int)
      · replace h := (if_pos c1811).symm.trans h
        obtain ⟨c1812, h⟩ := ifN h
        obtain ⟨c1813, h⟩ := ifN h
        obtain ⟨c1814, h⟩ := ifN h
        by_cases c1815 : (rdD 0 a0.f0 v587) = (rdD 0 a0.f0 (w64 (v587 - 1)))
        · replace h := (if_pos c1815).symm.trans h
          exact byHead MX Tryz.func218 1000 [.b true, .b false, .fin] (o1 (decide_eq_true c1811) (o1 c1812 (o1 c1811 (o1 c1813 (o1 c1814 (o1 (bnf (decide_eq_true c1815)) on)))))) (ih v586 (w64 (v587 + 1)) h) (by kernel_rfl)
        · replace h := (if_neg c1815).symm.trans h
          exact byHead MX Tryz.func218 1000 [.b true, .b true, .fin] (o1 (decide_eq_true c1811) (o1 c1812 (o1 c1811 (o1 c1813 (o1 c1814 (o1 (bnt (decide_eq_false c1815)) on)))))) (ih (w64 (v586 + 1)) (w64 (v587 + 1)) h) (by kernel_rfl)
      · replace h := (if_neg c1811).symm.trans h
        cases h
        exact byRet MX Tryz.func218 1000 [.b false, .fin, .fin] (o1 (decide_eq_false c1811) on) (by kernel_rfl)
  exact byHead MX Tryz.func218 1000 [.fin] on (H0 k 0 (w64 ((if 0 > a1 then 0 else a1) + 1)) h) (by kernel_rfl)

/-! ### impl_MovesOf: function 178 -/
def impl_MovesOf.h0T (v591 : Int) (a0 : List S72) (v592 : Int) : List (Nat × AV) := [(3, .t (.c (.p true (.sc (.int .i64 v591))))), (6, .t (.c (.p false (R 1 e72 z72 a0)))), (7, .t (.c (.p true (.sc (.int .i64 (a0.length : Int)))))), (8, .t (.c (.p true (.sc (.int .i64 v592)))))]
def impl_MovesOf.h0H (v591 : Int) (a0 : List S72) (v592 : Int) : List (Nat × Content) := []
def impl_MovesOf.l0 : Nat → List S72 → Int → Int → Option Int
  | 0, _, _, _ => none
  | kq + 1, a0, v591, v592 => if v592 < (a0.length : Int) then (if 0 ≤ v592 then ((impl_movesAfter.f kq (rdD z72 a0 v592) 0).bind fun t593 => impl_MovesOf.l0 kq a0 (w64 (v591 + t593)) (w64 (v592 + 1))) else none) else (some v591)
def impl_MovesOf.f (k : Nat) (a0 : List S72) : Option Int := impl_MovesOf.l0 k a0 0 0
theorem impl_MovesOf.go : Callable Tryz.prog 178 := ⟨_, Tryz.func178, by kernel_rfl, rfl⟩
theorem impl_MovesOf.ok (k : Nat) (a0 : List S72) (r : Int) (h : impl_MovesOf.f k a0 = some r) : VCalls Tryz.prog 178 [.c (R 1 e72 z72 a0)] [.c (.p (.sc (.int .i64 r)))] := by
  unfold impl_MovesOf.f at h
  refine VCalls.of (fn := Tryz.f178) (N := 18) Tryz.func178 rfl rfl (fun w0 => ?_)
  have H0 : ∀ (kq : Nat) (v591 : Int) (v592 : Int), impl_MovesOf.l0 kq a0 v591 v592 = some r → AG Tryz.prog 178 18 [.c (.p (.sc (.int .i64 r)))] w0 (headStk (codeOf Tryz.f178) 0) (mkFS (impl_MovesOf.h0T v591 a0 v592) (impl_MovesOf.h0H v591 a0 v592)) := by
    intro kq
    induction kq with
    | zero => intro v591 v592 h; cases h
    | succ kq ih =>
      intro v591 v592 h
      rw [impl_MovesOf.l0] at h
      by_cases c1819 : v592 < (a0.length : Int)
      · replace h := (if_pos c1819).symm.trans h
        obtain ⟨c1820, h⟩ := ifN h
        obtain ⟨t593, g1821, h⟩ := bindN h
        let C1821 := mkCon (impl_movesAfter.ok kq (rdD z72 a0 v592) 0 t593 g1821) impl_movesAfter.go
        exact byHead MX Tryz.func178 1000 [.b true, .call C1821, .fin] (o1 (decide_eq_true c1819) (o1 c1820 (o1 c1819 (oa (sc_ C1821) on)))) (ih (w64 (v591 + t593)) (w64 (v592 + 1)) h) (by kernel_rfl)
      · replace h := (if_neg c1819).symm.trans h
        cases h
        exact byRet MX Tryz.func178 1000 [.b false, .fin, .fin] (o1 (decide_eq_false c1819) on) (by kernel_rfl)
  exact byHead MX Tryz.func178 1000 [.fin] on (H0 k 0 0 h) (by kernel_rfl)

/-! ### impl_PlanFault: function 97 -/
def impl_PlanFault.f (k : Nat) (a0 : S38) (a1 : List Int) (a2 : List Int) (a3 : S45) : Option Int := (impl_EndsOf.f k a3.f2).bind fun t503 => (impl_AskOk.f k a0 a1 a2 a3.f0).bind fun t510 => if t510 = true then ((impl_formFault.f k a1 a3).bind fun t512 => if t512 = true then (some 2) else ((impl_stepFault.f k a0 a3.f2).bind fun t526 => if t526 = true then (some 3) else ((impl_someTime_3.f k a3.f0 (fun x1701 => impl_PlanFault_1.f k x1701 a3)).bind fun t545 => if t545 = true then (some 4) else ((impl_someTime_3.f k a3.f0 (fun x1771 => impl_PlanFault_2.f k x1771 a3)).bind fun t569 => if t569 = true then (some 5) else ((impl_someTime_3.f k a3.f0 (fun x1785 => impl_PlanFault_3.f k x1785 a3)).bind fun t578 => if t578 = true then (some 6) else ((slices_ContainsFunc_int_int_1.f k a2 (fun x1789 => impl_PlanFault_4.f k x1789 t503)).bind fun t584 => if t584 = true then (some 7) else ((impl_MovesOf.f k a3.f2).bind fun t594 => if a3.f1 = t594 then (some 0) else (some 8)))))))) else (some 1)
theorem impl_PlanFault.go : Callable Tryz.prog 97 := ⟨_, Tryz.func97, by kernel_rfl, rfl⟩
theorem impl_PlanFault.ok (k : Nat) (a0 : S38) (a1 : List Int) (a2 : List Int) (a3 : S45) (r : Int) (h : impl_PlanFault.f k a0 a1 a2 a3 = some r) : VCalls Tryz.prog 97 [.agg (e38 a0), .c (R 1 (eI .i64) 0 a1), .c (R 1 (eI .i64) 0 a2), .agg (e45 a3)] [.c (.p (.sc (.int .i64 r)))] := by
  unfold impl_PlanFault.f at h
  refine VCalls.of (fn := Tryz.f97) (N := 56) Tryz.func97 rfl rfl (fun w0 => ?_)
  obtain ⟨t503, g1574, h⟩ := bindN h
  let C1574 := mkCon (impl_EndsOf.ok k a3.f2 t503 g1574) impl_EndsOf.go
  obtain ⟨t510, g1590, h⟩ := bindN h
  let C1590 := mkCon (impl_AskOk.ok k a0 a1 a2 a3.f0 t510 g1590) impl_AskOk.go
  by_cases c1591 : t510 = true
  · replace h := (if_pos c1591).symm.trans h
    obtain ⟨t512, g1604, h⟩ := bindN h
    let C1604 := mkCon (impl_formFault.ok k a1 a3 t512 g1604) impl_formFault.go
    by_cases c1605 : t512 = true
    · replace h := (if_pos c1605).symm.trans h
      cases h
      exact byRet MX Tryz.func97 1000 [.call C1574, .call C1590, .b false, .call C1604, .b true, .fin] (oa (sc_ C1574) (oa (sc_ C1590) (o1 (bnf c1591) (oa (sc_ C1604) (o1 c1605 on))))) (by kernel_rfl)
    · replace h := (if_neg c1605).symm.trans h
      obtain ⟨t526, g1646, h⟩ := bindN h
      let C1646 := mkCon (impl_stepFault.ok k a0 a3.f2 t526 g1646) impl_stepFault.go
      by_cases c1647 : t526 = true
      · replace h := (if_pos c1647).symm.trans h
        cases h
        exact byRet MX Tryz.func97 1000 [.call C1574, .call C1590, .b false, .call C1604, .b false, .call C1646, .b true, .fin] (oa (sc_ C1574) (oa (sc_ C1590) (o1 (bnf c1591) (oa (sc_ C1604) (o1 (eqf c1605) (oa (sc_ C1646) (o1 c1647 on))))))) (by kernel_rfl)
      · replace h := (if_neg c1647).symm.trans h
        obtain ⟨t545, g1708, h⟩ := bindN h
        let C1708 := mkCon (impl_someTime_3.ok k a3.f0 (fun x1701 => impl_PlanFault_1.f k x1701 a3) 171 (.sc (.int .i64 a3.f0)) (.sc (.int .i64 a3.f1)) (R 1 e72 z72 a3.f2) (fun x1701 r h => impl_PlanFault_1.ok k x1701 a3 r h) impl_PlanFault_1.go t545 g1708) impl_someTime_3.go
        by_cases c1709 : t545 = true
        · replace h := (if_pos c1709).symm.trans h
          cases h
          exact byRet MX Tryz.func97 1000 [.call C1574, .call C1590, .b false, .call C1604, .b false, .call C1646, .b false, .call C1708, .b true, .fin] (oa (sc_ C1574) (oa (sc_ C1590) (o1 (bnf c1591) (oa (sc_ C1604) (o1 (eqf c1605) (oa (sc_ C1646) (o1 (eqf c1647) (oa (sc_ C1708) (o1 c1709 on))))))))) (by kernel_rfl)
        · replace h := (if_neg c1709).symm.trans h
          obtain ⟨t569, g1772, h⟩ := bindN h
          let C1772 := mkCon (impl_someTime_3.ok k a3.f0 (fun x1771 => impl_PlanFault_2.f k x1771 a3) 173 (.sc (.int .i64 a3.f0)) (.sc (.int .i64 a3.f1)) (R 1 e72 z72 a3.f2) (fun x1771 r h => impl_PlanFault_2.ok k x1771 a3 r h) impl_PlanFault_2.go t569 g1772) impl_someTime_3.go
          by_cases c1773 : t569 = true
          · replace h := (if_pos c1773).symm.trans h
            cases h
            exact byRet MX Tryz.func97 1000 [.call C1574, .call C1590, .b false, .call C1604, .b false, .call C1646, .b false, .call C1708, .b false, .call C1772, .b true, .fin] (oa (sc_ C1574) (oa (sc_ C1590) (o1 (bnf c1591) (oa (sc_ C1604) (o1 (eqf c1605) (oa (sc_ C1646) (o1 (eqf c1647) (oa (sc_ C1708) (o1 (eqf c1709) (oa (sc_ C1772) (o1 c1773 on))))))))))) (by kernel_rfl)
          · replace h := (if_neg c1773).symm.trans h
            obtain ⟨t578, g1786, h⟩ := bindN h
            let C1786 := mkCon (impl_someTime_3.ok k a3.f0 (fun x1785 => impl_PlanFault_3.f k x1785 a3) 175 (.sc (.int .i64 a3.f0)) (.sc (.int .i64 a3.f1)) (R 1 e72 z72 a3.f2) (fun x1785 r h => impl_PlanFault_3.ok k x1785 a3 r h) impl_PlanFault_3.go t578 g1786) impl_someTime_3.go
            by_cases c1787 : t578 = true
            · replace h := (if_pos c1787).symm.trans h
              cases h
              exact byRet MX Tryz.func97 1000 [.call C1574, .call C1590, .b false, .call C1604, .b false, .call C1646, .b false, .call C1708, .b false, .call C1772, .b false, .call C1786, .b true, .fin] (oa (sc_ C1574) (oa (sc_ C1590) (o1 (bnf c1591) (oa (sc_ C1604) (o1 (eqf c1605) (oa (sc_ C1646) (o1 (eqf c1647) (oa (sc_ C1708) (o1 (eqf c1709) (oa (sc_ C1772) (o1 (eqf c1773) (oa (sc_ C1786) (o1 c1787 on))))))))))))) (by kernel_rfl)
            · replace h := (if_neg c1787).symm.trans h
              obtain ⟨t584, g1798, h⟩ := bindN h
              let C1798 := mkCon (slices_ContainsFunc_int_int_1.ok k a2 (fun x1789 => impl_PlanFault_4.f k x1789 t503) 177 (R 1 (eI .i64) 0 t503) (fun x1789 r h => impl_PlanFault_4.ok k x1789 t503 r h) impl_PlanFault_4.go t584 g1798) slices_ContainsFunc_int_int_1.go
              by_cases c1799 : t584 = true
              · replace h := (if_pos c1799).symm.trans h
                cases h
                exact byRet MX Tryz.func97 1000 [.call C1574, .call C1590, .b false, .call C1604, .b false, .call C1646, .b false, .call C1708, .b false, .call C1772, .b false, .call C1786, .b false, .call C1798, .b true, .fin] (oa (sc_ C1574) (oa (sc_ C1590) (o1 (bnf c1591) (oa (sc_ C1604) (o1 (eqf c1605) (oa (sc_ C1646) (o1 (eqf c1647) (oa (sc_ C1708) (o1 (eqf c1709) (oa (sc_ C1772) (o1 (eqf c1773) (oa (sc_ C1786) (o1 (eqf c1787) (oa (sc_ C1798) (o1 c1799 on))))))))))))))) (by kernel_rfl)
              · replace h := (if_neg c1799).symm.trans h
                obtain ⟨t594, g1822, h⟩ := bindN h
                let C1822 := mkCon (impl_MovesOf.ok k a3.f2 t594 g1822) impl_MovesOf.go
                by_cases c1823 : a3.f1 = t594
                · replace h := (if_pos c1823).symm.trans h
                  cases h
                  exact byRet MX Tryz.func97 1000 [.call C1574, .call C1590, .b false, .call C1604, .b false, .call C1646, .b false, .call C1708, .b false, .call C1772, .b false, .call C1786, .b false, .call C1798, .b false, .call C1822, .b false, .fin] (oa (sc_ C1574) (oa (sc_ C1590) (o1 (bnf c1591) (oa (sc_ C1604) (o1 (eqf c1605) (oa (sc_ C1646) (o1 (eqf c1647) (oa (sc_ C1708) (o1 (eqf c1709) (oa (sc_ C1772) (o1 (eqf c1773) (oa (sc_ C1786) (o1 (eqf c1787) (oa (sc_ C1798) (o1 (eqf c1799) (oa (sc_ C1822) (o1 (bnf (decide_eq_true c1823)) on))))))))))))))))) (by kernel_rfl)
                · replace h := (if_neg c1823).symm.trans h
                  cases h
                  exact byRet MX Tryz.func97 1000 [.call C1574, .call C1590, .b false, .call C1604, .b false, .call C1646, .b false, .call C1708, .b false, .call C1772, .b false, .call C1786, .b false, .call C1798, .b false, .call C1822, .b true, .fin] (oa (sc_ C1574) (oa (sc_ C1590) (o1 (bnf c1591) (oa (sc_ C1604) (o1 (eqf c1605) (oa (sc_ C1646) (o1 (eqf c1647) (oa (sc_ C1708) (o1 (eqf c1709) (oa (sc_ C1772) (o1 (eqf c1773) (oa (sc_ C1786) (o1 (eqf c1787) (oa (sc_ C1798) (o1 (eqf c1799) (oa (sc_ C1822) (o1 (bnt (decide_eq_false c1823)) on))))))))))))))))) (by kernel_rfl)
  · replace h := (if_neg c1591).symm.trans h
    cases h
    exact byRet MX Tryz.func97 1000 [.call C1574, .call C1590, .b true, .fin] (oa (sc_ C1574) (oa (sc_ C1590) (o1 (bnt (eqf c1591)) on))) (by kernel_rfl)

/-! ### impl_YardOk_1: function 101 -/
def impl_YardOk_1.f (a0 : S74) (a1 : S69) : Option Bool := some (decide (a0.f0 = a1.f0))
theorem impl_YardOk_1.go : Callable Tryz.prog 101 := ⟨_, Tryz.func101, by kernel_rfl, rfl⟩
theorem impl_YardOk_1.ok (a0 : S74) (a1 : S69) (r : Bool) (h : impl_YardOk_1.f a0 a1 = some r) : VCalls Tryz.prog 101 [.agg (e74 a0), .ptr [.sc (.int .i64 a1.f0), .sc (.int .i64 a1.f1), .sc (.int .i64 a1.f2), .sc (.bool a1.f3)]] [.c (.p (.sc (.bool r)))] := by
  unfold impl_YardOk_1.f at h
  refine VCalls.of (fn := Tryz.f101) (N := 9) Tryz.func101 rfl rfl (fun w0 => ?_)
  cases h
  exact byRet MX Tryz.func101 1000 [.fin] on (by kernel_rfl)

/-! ### slices_IndexFunc_impl_Job_impl_Job_4: function 59 -/
def slices_IndexFunc_impl_Job_impl_Job_4.h0T (a0 : List S74) (gi1 : FuncId) (u1_0_0 : V) (u1_0_1 : V) (u1_0_2 : V) (u1_0_3 : V) (v597 : Int) : List (Nat × AV) := [(0, .t (.c (.p false (R 3 e74 z74 a0)))), (1, .bfn gi1 [[u1_0_0, u1_0_1, u1_0_2, u1_0_3]]), (7, .t (.c (.p true (.sc (.int .i64 (a0.length : Int)))))), (8, .t (.c (.p true (.sc (.int .i64 v597)))))]
def slices_IndexFunc_impl_Job_impl_Job_4.h0H (a0 : List S74) (gi1 : FuncId) (u1_0_0 : V) (u1_0_1 : V) (u1_0_2 : V) (u1_0_3 : V) (v597 : Int) : List (Nat × Content) := []
def slices_IndexFunc_impl_Job_impl_Job_4.l0 : Nat → List S74 → (S74 → Option Bool) → Int → Option Int
  | 0, _, _, _ => none
  | kq + 1, a0, p1, v597 => if v597 < (a0.length : Int) then (if 0 ≤ v597 then ((p1 (rdD z74 a0 v597)).bind fun t598 => if t598 = true then (some v597) else (slices_IndexFunc_impl_Job_impl_Job_4.l0 kq a0 p1 (w64 (v597 + 1)))) else none) else (some (-1))
def slices_IndexFunc_impl_Job_impl_Job_4.f (k : Nat) (a0 : List S74) (p1 : S74 → Option Bool) : Option Int := slices_IndexFunc_impl_Job_impl_Job_4.l0 k a0 p1 0
theorem slices_IndexFunc_impl_Job_impl_Job_4.go : Callable Tryz.prog 59 := ⟨_, Tryz.func59, by kernel_rfl, rfl⟩
theorem slices_IndexFunc_impl_Job_impl_Job_4.ok (k : Nat) (a0 : List S74) (p1 : S74 → Option Bool) (gi1 : FuncId) (u1_0_0 u1_0_1 u1_0_2 u1_0_3 : V) (hp1 : ∀ x0 r, p1 x0 = some r → VCalls Tryz.prog gi1 [.agg (e74 x0), .ptr [u1_0_0, u1_0_1, u1_0_2, u1_0_3]] [.c (.p (.sc (.bool r)))]) (go1 : Callable Tryz.prog gi1) (r : Int) (h : slices_IndexFunc_impl_Job_impl_Job_4.f k a0 p1 = some r) : VCalls Tryz.prog 59 [.c (R 3 e74 z74 a0), .fn gi1 [[u1_0_0, u1_0_1, u1_0_2, u1_0_3]]] [.c (.p (.sc (.int .i64 r)))] := by
  unfold slices_IndexFunc_impl_Job_impl_Job_4.f at h
  refine VCalls.of (fn := Tryz.f59) (N := 19) Tryz.func59 rfl rfl (fun w0 => ?_)
  have H0 : ∀ (kq : Nat) (v597 : Int), slices_IndexFunc_impl_Job_impl_Job_4.l0 kq a0 p1 v597 = some r → AG Tryz.prog 59 19 [.c (.p (.sc (.int .i64 r)))] w0 (headStk (codeOf Tryz.f59) 0) (mkFS (slices_IndexFunc_impl_Job_impl_Job_4.h0T a0 gi1 u1_0_0 u1_0_1 u1_0_2 u1_0_3 v597) (slices_IndexFunc_impl_Job_impl_Job_4.h0H a0 gi1 u1_0_0 u1_0_1 u1_0_2 u1_0_3 v597)) := by
    intro kq
    induction kq with
    | zero => intro v597 h; cases h
    | succ kq ih =>
      intro v597 h
      rw [slices_IndexFunc_impl_Job_impl_Job_4.l0] at h
      by_cases c1831 : v597 < (a0.length : Int)
      · replace h := (if_pos c1831).symm.trans h
        obtain ⟨c1832, h⟩ := ifN h
        obtain ⟨t598, g1833, h⟩ := bindN h
        let C1833 := mkCon (hp1 (rdD z74 a0 v597) t598 g1833) go1
        by_cases c1834 : t598 = true
        · replace h := (if_pos c1834).symm.trans h
          cases h
          exact byRet MX Tryz.func59 1000 [.b true, .call C1833, .b true, .fin] (o1 (decide_eq_true c1831) (o1 c1832 (o1 c1831 (oa (sc_ C1833) (o1 c1834 on))))) (by kernel_rfl)
        · replace h := (if_neg c1834).symm.trans h
          exact byHead MX Tryz.func59 1000 [.b true, .call C1833, .b false, .fin] (o1 (decide_eq_true c1831) (o1 c1832 (o1 c1831 (oa (sc_ C1833) (o1 (eqf c1834) on))))) (ih (w64 (v597 + 1)) h) (by kernel_rfl)
      · replace h := (if_neg c1831).symm.trans h
        cases h
        exact byRet MX Tryz.func59 1000 [.b false, .fin, .fin] (o1 (decide_eq_false c1831) on) (by kernel_rfl)
  exact byHead MX Tryz.func59 1000 [.fin] on (H0 k 0 h) (by kernel_rfl)

/-! ### slices_ContainsFunc_impl_Job_impl_Job_4: function 100 -/
def slices_ContainsFunc_impl_Job_impl_Job_4.f (k : Nat) (a0 : List S74) (p1 : S74 → Option Bool) : Option Bool := (slices_IndexFunc_impl_Job_impl_Job_4.f k a0 p1).bind fun t599 => some (decide (0 ≤ t599))
theorem slices_ContainsFunc_impl_Job_impl_Job_4.go : Callable Tryz.prog 100 := ⟨_, Tryz.func100, by kernel_rfl, rfl⟩
theorem slices_ContainsFunc_impl_Job_impl_Job_4.ok (k : Nat) (a0 : List S74) (p1 : S74 → Option Bool) (gi1 : FuncId) (u1_0_0 u1_0_1 u1_0_2 u1_0_3 : V) (hp1 : ∀ x0 r, p1 x0 = some r → VCalls Tryz.prog gi1 [.agg (e74 x0), .ptr [u1_0_0, u1_0_1, u1_0_2, u1_0_3]] [.c (.p (.sc (.bool r)))]) (go1 : Callable Tryz.prog gi1) (r : Bool) (h : slices_ContainsFunc_impl_Job_impl_Job_4.f k a0 p1 = some r) : VCalls Tryz.prog 100 [.c (R 3 e74 z74 a0), .fn gi1 [[u1_0_0, u1_0_1, u1_0_2, u1_0_3]]] [.c (.p (.sc (.bool r)))] := by
  unfold slices_ContainsFunc_impl_Job_impl_Job_4.f at h
  refine VCalls.of (fn := Tryz.f100) (N := 9) Tryz.func100 rfl rfl (fun w0 => ?_)
  obtain ⟨t599, g1835, h⟩ := bindN h
  let C1835 := mkCon (slices_IndexFunc_impl_Job_impl_Job_4.ok k a0 p1 gi1 u1_0_0 u1_0_1 u1_0_2 u1_0_3 hp1 go1 t599 g1835) slices_IndexFunc_impl_Job_impl_Job_4.go
  cases h
  exact byRet MX Tryz.func100 1000 [.call C1835, .fin] (oa (sc_ C1835) on) (by kernel_rfl)

/-! ### impl_YardOk_2: function 104 -/
def impl_YardOk_2.f (k : Nat) (a0 : Int) (a1 : List Int) : Option Bool := (slices_Contains_int_int.f k a1 a0).bind fun t604 => some t604
theorem impl_YardOk_2.go : Callable Tryz.prog 104 := ⟨_, Tryz.func104, by kernel_rfl, rfl⟩
theorem impl_YardOk_2.ok (k : Nat) (a0 : Int) (a1 : List Int) (r : Bool) (h : impl_YardOk_2.f k a0 a1 = some r) : VCalls Tryz.prog 104 [.c (.sc (.int .i64 a0)), .ptr [R 1 (eI .i64) 0 a1]] [.c (.p (.sc (.bool r)))] := by
  unfold impl_YardOk_2.f at h
  refine VCalls.of (fn := Tryz.f104) (N := 7) Tryz.func104 rfl rfl (fun w0 => ?_)
  obtain ⟨t604, g1844, h⟩ := bindN h
  let C1844 := mkCon (slices_Contains_int_int.ok k a1 a0 t604 g1844) slices_Contains_int_int.go
  cases h
  exact byRet MX Tryz.func104 1000 [.call C1844, .fin] (oa (sc_ C1844) on) (by kernel_rfl)

/-! ### impl_YardOk: function 40 -/
def impl_YardOk.h0T (a0 : S48) (v601 : Int) (t478 : List Int) : List (Nat × AV) := [(1, .ptr 64 0), (4, .ptr 256 0), (90, .t (.c (.p false (R 4 e69 z69 a0.f1)))), (91, .t (.c (.p true (.sc (.int .i64 (a0.f1.length : Int)))))), (92, .t (.c (.p true (.sc (.int .i64 v601)))))]
def impl_YardOk.h0H (a0 : S48) (v601 : Int) (t478 : List Int) : List (Nat × Content) := [(64, .box 48 [.p false (.sc (.int .i64 a0.f0.f0.f0)), .p false (.sc (.int .i64 a0.f0.f0.f1)), .p false (.sc (.string a0.f0.f0.f2)), .p false (.sc (.int .i64 a0.f0.f1)), .p false (.sc (.int .i64 a0.f0.f2)), .p false (.sc (.int .i64 a0.f0.f3)), .p false (.sc (.int .i64 a0.f0.f4)), .p false (R 4 e69 z69 a0.f1), .p false (.sc (.int .i64 a0.f2.f0)), .p false (.sc (.int .i64 a0.f2.f1)), .p false (R 1 (eI .i64) 0 a0.f2.f2), .p false (.sc (.int .i64 a0.f3)), .p false (.sc (.bool a0.f4)), .p false (.sc (.int .i64 a0.f5.f0)), .p false (.sc (.int .i64 a0.f5.f1)), .p false (R 1 e72 z72 a0.f5.f2), .p false (R 3 e74 z74 a0.f6), .p false (R 1 (eI .i64) 0 a0.f7)]), (256, .box 27 [.h 4736]), (4736, .row 3 1 t478.length (fun j => (eI .i64) (t478.getD j 0)) true)]
def impl_YardOk.l0 : Nat → S48 → List Int → Int → Option Bool
  | 0, _, _, _ => none
  | kq + 1, a0, t478, v601 => if v601 < (a0.f1.length : Int) then (if 0 ≤ v601 then ((slices_ContainsFunc_impl_Job_impl_Job_4.f kq a0.f6 (fun x1840 => impl_YardOk_1.f x1840 (rdD z69 a0.f1 v601))).bind fun t602 => if t602 = true then (impl_YardOk.l0 kq a0 t478 (w64 (v601 + 1))) else ((impl_heldBy.f (rdD z69 a0.f1 v601)).bind fun t603 => (slices_ContainsFunc_int_int_1.f kq t603 (fun x1845 => impl_YardOk_2.f kq x1845 t478)).bind fun t605 => if t605 = true then (some false) else (impl_YardOk.l0 kq a0 t478 (w64 (v601 + 1))))) else none) else (some true)
def impl_YardOk.f (k : Nat) (a0 : S48) : Option Bool := (impl_SetupOk.f k a0.f0).bind fun t317 => if t317 = true then ((impl_RobotsOk.f k a0.f0.f0 a0.f1).bind fun t422 => if t422 = true then ((impl_WindowOk.f k a0.f2).bind fun t428 => if t428 = true then (if a0.f2.f0 = a0.f0.f2 then (if a0.f2.f1 = a0.f0.f3 then (if a0.f3 < 0 then (some false) else (if 1000000000 < a0.f3 then (some false) else ((impl_JobsOk.f k a0).bind fun t466 => if t466 = true then ((impl_areFree.f k a0.f0.f0 a0.f7).bind fun t470 => if t470 = true then ((impl_isAscending.f k a0.f7).bind fun t472 => if t472 = true then (if a0.f4 = true then ((impl_Footprint.f k a0).bind fun t478 => (impl_onlyCells.f k a0.f0.f0 t478).bind fun t494 => (impl_firstCells.f k a0.f5.f2).bind fun t498 => (impl_PlanFault.f k t494 t498 a0.f7 a0.f5).bind fun t595 => if t595 = 0 then (impl_YardOk.l0 k a0 t478 0) else (some false)) else (some true)) else (some false)) else (some false)) else (some false)))) else (some false)) else (some false)) else (some false)) else (some false)) else (some false)
theorem impl_YardOk.go : Callable Tryz.prog 40 := ⟨_, Tryz.func40, by kernel_rfl, rfl⟩
theorem impl_YardOk.ok (k : Nat) (a0 : S48) (r : Bool) (h : impl_YardOk.f k a0 = some r) : VCalls Tryz.prog 40 [.agg (e48 a0)] [.c (.p (.sc (.bool r)))] := by
  unfold impl_YardOk.f at h
  refine VCalls.of (fn := Tryz.f40) (N := 109) Tryz.func40 rfl rfl (fun w0 => ?_)
  obtain ⟨t317, g1005, h⟩ := bindN h
  let C1005 := mkCon (impl_SetupOk.ok k a0.f0 t317 g1005) impl_SetupOk.go
  by_cases c1006 : t317 = true
  · replace h := (if_pos c1006).symm.trans h
    obtain ⟨t422, g1346, h⟩ := bindN h
    let C1346 := mkCon (impl_RobotsOk.ok k a0.f0.f0 a0.f1 t422 g1346) impl_RobotsOk.go
    by_cases c1347 : t422 = true
    · replace h := (if_pos c1347).symm.trans h
      obtain ⟨t428, g1364, h⟩ := bindN h
      let C1364 := mkCon (impl_WindowOk.ok k a0.f2 t428 g1364) impl_WindowOk.go
      by_cases c1365 : t428 = true
      · replace h := (if_pos c1365).symm.trans h
        by_cases c1366 : a0.f2.f0 = a0.f0.f2
        · replace h := (if_pos c1366).symm.trans h
          by_cases c1367 : a0.f2.f1 = a0.f0.f3
          · replace h := (if_pos c1367).symm.trans h
            by_cases c1368 : a0.f3 < 0
            · replace h := (if_pos c1368).symm.trans h
              cases h
              exact byRet MX Tryz.func40 1000 [.call C1005, .dec 13 false, .call C1346, .dec 21 false, .call C1364, .dec 27 false, .dec 35 false, .b false, .dec 46 true, .b true, .fin] (oa (sc_ C1005) (o1 (bnf c1006) (oa (sc_ C1346) (o1 (bnf c1347) (oa (sc_ C1364) (o1 (bnf c1365) (o1 (bnf (decide_eq_true c1366)) (o1 (bnf (decide_eq_true c1367)) (o1 (decide_eq_true c1368) (o1 (rfl : true = true) on)))))))))) (by kernel_rfl)
            · replace h := (if_neg c1368).symm.trans h
              by_cases c1369 : 1000000000 < a0.f3
              · replace h := (if_pos c1369).symm.trans h
                cases h
                exact byRet MX Tryz.func40 1000 [.call C1005, .dec 13 false, .call C1346, .dec 21 false, .call C1364, .dec 27 false, .dec 35 false, .b false, .dec 46 false, .dec 51 true, .b true, .fin] (oa (sc_ C1005) (o1 (bnf c1006) (oa (sc_ C1346) (o1 (bnf c1347) (oa (sc_ C1364) (o1 (bnf c1365) (o1 (bnf (decide_eq_true c1366)) (o1 (bnf (decide_eq_true c1367)) (o1 (decide_eq_false c1368) (o1 (decide_eq_true c1369) (o1 (rfl : true = true) on))))))))))) (by kernel_rfl)
              · replace h := (if_neg c1369).symm.trans h
                obtain ⟨t466, g1466, h⟩ := bindN h
                let C1466 := mkCon (impl_JobsOk.ok k a0 t466 g1466) impl_JobsOk.go
                by_cases c1467 : t466 = true
                · replace h := (if_pos c1467).symm.trans h
                  obtain ⟨t470, g1473, h⟩ := bindN h
                  let C1473 := mkCon (impl_areFree.ok k a0.f0.f0 a0.f7 t470 g1473) impl_areFree.go
                  by_cases c1474 : t470 = true
                  · replace h := (if_pos c1474).symm.trans h
                    obtain ⟨t472, g1484, h⟩ := bindN h
                    let C1484 := mkCon (impl_isAscending.ok k a0.f7 t472 g1484) impl_isAscending.go
                    by_cases c1485 : t472 = true
                    · replace h := (if_pos c1485).symm.trans h
                      by_cases c1486 : a0.f4 = true
                      · replace h := (if_pos c1486).symm.trans h
                        obtain ⟨t478, g1500, h⟩ := bindN h
                        let C1500 := mkCon (impl_Footprint.ok k a0 t478 g1500) impl_Footprint.go
                        obtain ⟨t494, g1535, h⟩ := bindN h
                        let C1535 := mkCon (impl_onlyCells.ok k a0.f0.f0 t478 t494 g1535) impl_onlyCells.go
                        obtain ⟨t498, g1550, h⟩ := bindN h
                        let C1550 := mkCon (impl_firstCells.ok k a0.f5.f2 t498 g1550) impl_firstCells.go
                        obtain ⟨t595, g1824, h⟩ := bindN h
                        let C1824 := mkCon (impl_PlanFault.ok k t494 t498 a0.f7 a0.f5 t595 g1824) impl_PlanFault.go
                        by_cases c1825 : t595 = 0
                        · replace h := (if_pos c1825).symm.trans h
                          have H0 : ∀ (kq : Nat) (v601 : Int), impl_YardOk.l0 kq a0 t478 v601 = some r → AG Tryz.prog 40 109 [.c (.p (.sc (.bool r)))] w0 (headStk (codeOf Tryz.f40) 0) (mkFS (impl_YardOk.h0T a0 v601 t478) (impl_YardOk.h0H a0 v601 t478)) := by
                            intro kq
                            induction kq with
                            | zero => intro v601 h; cases h
                            | succ kq ih =>
                              intro v601 h
                              rw [impl_YardOk.l0] at h
                              by_cases c1838 : v601 < (a0.f1.length : Int)
                              · replace h := (if_pos c1838).symm.trans h
                                obtain ⟨c1839, h⟩ := ifN h
                                obtain ⟨t602, g1841, h⟩ := bindN h
                                let C1841 := mkCon (slices_ContainsFunc_impl_Job_impl_Job_4.ok kq a0.f6 (fun x1840 => impl_YardOk_1.f x1840 (rdD z69 a0.f1 v601)) 101 (.sc (.int .i64 ((rdD z69 a0.f1 v601).f0))) (.sc (.int .i64 ((rdD z69 a0.f1 v601).f1))) (.sc (.int .i64 ((rdD z69 a0.f1 v601).f2))) (.sc (.bool ((rdD z69 a0.f1 v601).f3))) (fun x1840 r h => impl_YardOk_1.ok x1840 (rdD z69 a0.f1 v601) r h) impl_YardOk_1.go t602 g1841) slices_ContainsFunc_impl_Job_impl_Job_4.go
                                by_cases c1842 : t602 = true
                                · replace h := (if_pos c1842).symm.trans h
                                  exact byHead MX Tryz.func40 1000 [.b true, .call C1841, .dec 102 false, .b false, .fin] (o1 (decide_eq_true c1838) (o1 c1839 (o1 c1838 (oa (sc_ C1841) (o1 (bnf c1842) (o1 (rfl : false = false) on)))))) (ih (w64 (v601 + 1)) h) (by kernel_rfl)
                                · replace h := (if_neg c1842).symm.trans h
                                  obtain ⟨t603, g1843, h⟩ := bindN h
                                  let C1843 := mkCon (impl_heldBy.ok (rdD z69 a0.f1 v601) t603 g1843) impl_heldBy.go
                                  obtain ⟨t605, g1846, h⟩ := bindN h
                                  let C1846 := mkCon (slices_ContainsFunc_int_int_1.ok kq t603 (fun x1845 => impl_YardOk_2.f kq x1845 t478) 104 (R 1 (eI .i64) 0 t478) (fun x1845 r h => impl_YardOk_2.ok kq x1845 t478 r h) impl_YardOk_2.go t605 g1846) slices_ContainsFunc_int_int_1.go
                                  by_cases c1847 : t605 = true
                                  · replace h := (if_pos c1847).symm.trans h
                                    cases h
                                    exact byRet MX Tryz.func40 1000 [.b true, .call C1841, .dec 102 true, .call C1843, .call C1846, .b true, .fin] (o1 (decide_eq_true c1838) (o1 c1839 (o1 c1838 (oa (sc_ C1841) (o1 (bnt (eqf c1842)) (oa (sc_ C1843) (oa (sc_ C1846) (o1 c1847 on)))))))) (by kernel_rfl)
                                  · replace h := (if_neg c1847).symm.trans h
                                    exact byHead MX Tryz.func40 1000 [.b true, .call C1841, .dec 102 true, .call C1843, .call C1846, .b false, .fin] (o1 (decide_eq_true c1838) (o1 c1839 (o1 c1838 (oa (sc_ C1841) (o1 (bnt (eqf c1842)) (oa (sc_ C1843) (oa (sc_ C1846) (o1 (eqf c1847) on)))))))) (ih (w64 (v601 + 1)) h) (by kernel_rfl)
                              · replace h := (if_neg c1838).symm.trans h
                                cases h
                                exact byRet MX Tryz.func40 1000 [.b false, .fin, .fin] (o1 (decide_eq_false c1838) on) (by kernel_rfl)
                          exact byHead MX Tryz.func40 1000 [.call C1005, .dec 13 false, .call C1346, .dec 21 false, .call C1364, .dec 27 false, .dec 35 false, .b false, .dec 46 false, .dec 51 false, .call C1466, .dec 56 false, .call C1473, .dec 64 false, .call C1484, .b false, .b false, .call C1500, .call C1535, .call C1550, .call C1824, .b false, .fin] (oa (sc_ C1005) (o1 (bnf c1006) (oa (sc_ C1346) (o1 (bnf c1347) (oa (sc_ C1364) (o1 (bnf c1365) (o1 (bnf (decide_eq_true c1366)) (o1 (bnf (decide_eq_true c1367)) (o1 (decide_eq_false c1368) (o1 (decide_eq_false c1369) (oa (sc_ C1466) (o1 (bnf c1467) (oa (sc_ C1473) (o1 (bnf c1474) (oa (sc_ C1484) (o1 (bnf c1485) (o1 (bnf c1486) (oa (sc_ C1500) (oa (sc_ C1535) (oa (sc_ C1550) (oa (sc_ C1824) (o1 (bnf (decide_eq_true c1825)) on)))))))))))))))))))))) (H0 k 0 h) (by kernel_rfl)
                        · replace h := (if_neg c1825).symm.trans h
                          cases h
                          exact byRet MX Tryz.func40 1000 [.call C1005, .dec 13 false, .call C1346, .dec 21 false, .call C1364, .dec 27 false, .dec 35 false, .b false, .dec 46 false, .dec 51 false, .call C1466, .dec 56 false, .call C1473, .dec 64 false, .call C1484, .b false, .b false, .call C1500, .call C1535, .call C1550, .call C1824, .b true, .fin] (oa (sc_ C1005) (o1 (bnf c1006) (oa (sc_ C1346) (o1 (bnf c1347) (oa (sc_ C1364) (o1 (bnf c1365) (o1 (bnf (decide_eq_true c1366)) (o1 (bnf (decide_eq_true c1367)) (o1 (decide_eq_false c1368) (o1 (decide_eq_false c1369) (oa (sc_ C1466) (o1 (bnf c1467) (oa (sc_ C1473) (o1 (bnf c1474) (oa (sc_ C1484) (o1 (bnf c1485) (o1 (bnf c1486) (oa (sc_ C1500) (oa (sc_ C1535) (oa (sc_ C1550) (oa (sc_ C1824) (o1 (bnt (decide_eq_false c1825)) on)))))))))))))))))))))) (by kernel_rfl)
                      · replace h := (if_neg c1486).symm.trans h
                        cases h
                        exact byRet MX Tryz.func40 1000 [.call C1005, .dec 13 false, .call C1346, .dec 21 false, .call C1364, .dec 27 false, .dec 35 false, .b false, .dec 46 false, .dec 51 false, .call C1466, .dec 56 false, .call C1473, .dec 64 false, .call C1484, .b false, .b true, .fin] (oa (sc_ C1005) (o1 (bnf c1006) (oa (sc_ C1346) (o1 (bnf c1347) (oa (sc_ C1364) (o1 (bnf c1365) (o1 (bnf (decide_eq_true c1366)) (o1 (bnf (decide_eq_true c1367)) (o1 (decide_eq_false c1368) (o1 (decide_eq_false c1369) (oa (sc_ C1466) (o1 (bnf c1467) (oa (sc_ C1473) (o1 (bnf c1474) (oa (sc_ C1484) (o1 (bnf c1485) (o1 (bnt (eqf c1486)) on))))))))))))))))) (by kernel_rfl)
                    · replace h := (if_neg c1485).symm.trans h
                      cases h
                      exact byRet MX Tryz.func40 1000 [.call C1005, .dec 13 false, .call C1346, .dec 21 false, .call C1364, .dec 27 false, .dec 35 false, .b false, .dec 46 false, .dec 51 false, .call C1466, .dec 56 false, .call C1473, .dec 64 false, .call C1484, .b true, .fin] (oa (sc_ C1005) (o1 (bnf c1006) (oa (sc_ C1346) (o1 (bnf c1347) (oa (sc_ C1364) (o1 (bnf c1365) (o1 (bnf (decide_eq_true c1366)) (o1 (bnf (decide_eq_true c1367)) (o1 (decide_eq_false c1368) (o1 (decide_eq_false c1369) (oa (sc_ C1466) (o1 (bnf c1467) (oa (sc_ C1473) (o1 (bnf c1474) (oa (sc_ C1484) (o1 (bnt (eqf c1485)) on)))))))))))))))) (by kernel_rfl)
                  · replace h := (if_neg c1474).symm.trans h
                    cases h
                    exact byRet MX Tryz.func40 1000 [.call C1005, .dec 13 false, .call C1346, .dec 21 false, .call C1364, .dec 27 false, .dec 35 false, .b false, .dec 46 false, .dec 51 false, .call C1466, .dec 56 false, .call C1473, .dec 64 true, .b true, .fin] (oa (sc_ C1005) (o1 (bnf c1006) (oa (sc_ C1346) (o1 (bnf c1347) (oa (sc_ C1364) (o1 (bnf c1365) (o1 (bnf (decide_eq_true c1366)) (o1 (bnf (decide_eq_true c1367)) (o1 (decide_eq_false c1368) (o1 (decide_eq_false c1369) (oa (sc_ C1466) (o1 (bnf c1467) (oa (sc_ C1473) (o1 (bnt (eqf c1474)) (o1 (rfl : true = true) on))))))))))))))) (by kernel_rfl)
                · replace h := (if_neg c1467).symm.trans h
                  cases h
                  exact byRet MX Tryz.func40 1000 [.call C1005, .dec 13 false, .call C1346, .dec 21 false, .call C1364, .dec 27 false, .dec 35 false, .b false, .dec 46 false, .dec 51 false, .call C1466, .dec 56 true, .b true, .fin] (oa (sc_ C1005) (o1 (bnf c1006) (oa (sc_ C1346) (o1 (bnf c1347) (oa (sc_ C1364) (o1 (bnf c1365) (o1 (bnf (decide_eq_true c1366)) (o1 (bnf (decide_eq_true c1367)) (o1 (decide_eq_false c1368) (o1 (decide_eq_false c1369) (oa (sc_ C1466) (o1 (bnt (eqf c1467)) (o1 (rfl : true = true) on))))))))))))) (by kernel_rfl)
          · replace h := (if_neg c1367).symm.trans h
            cases h
            exact byRet MX Tryz.func40 1000 [.call C1005, .dec 13 false, .call C1346, .dec 21 false, .call C1364, .dec 27 false, .dec 35 false, .b true, .fin] (oa (sc_ C1005) (o1 (bnf c1006) (oa (sc_ C1346) (o1 (bnf c1347) (oa (sc_ C1364) (o1 (bnf c1365) (o1 (bnf (decide_eq_true c1366)) (o1 (bnt (decide_eq_false c1367)) on)))))))) (by kernel_rfl)
        · replace h := (if_neg c1366).symm.trans h
          cases h
          exact byRet MX Tryz.func40 1000 [.call C1005, .dec 13 false, .call C1346, .dec 21 false, .call C1364, .dec 27 false, .dec 35 true, .b true, .fin] (oa (sc_ C1005) (o1 (bnf c1006) (oa (sc_ C1346) (o1 (bnf c1347) (oa (sc_ C1364) (o1 (bnf c1365) (o1 (bnt (decide_eq_false c1366)) (o1 (rfl : true = true) on)))))))) (by kernel_rfl)
      · replace h := (if_neg c1365).symm.trans h
        cases h
        exact byRet MX Tryz.func40 1000 [.call C1005, .dec 13 false, .call C1346, .dec 21 false, .call C1364, .dec 27 true, .b true, .fin] (oa (sc_ C1005) (o1 (bnf c1006) (oa (sc_ C1346) (o1 (bnf c1347) (oa (sc_ C1364) (o1 (bnt (eqf c1365)) (o1 (rfl : true = true) on))))))) (by kernel_rfl)
    · replace h := (if_neg c1347).symm.trans h
      cases h
      exact byRet MX Tryz.func40 1000 [.call C1005, .dec 13 false, .call C1346, .dec 21 true, .b true, .fin] (oa (sc_ C1005) (o1 (bnf c1006) (oa (sc_ C1346) (o1 (bnt (eqf c1347)) (o1 (rfl : true = true) on))))) (by kernel_rfl)
  · replace h := (if_neg c1006).symm.trans h
    cases h
    exact byRet MX Tryz.func40 1000 [.call C1005, .dec 13 true, .b true, .fin] (oa (sc_ C1005) (o1 (bnt (eqf c1006)) (o1 (rfl : true = true) on))) (by kernel_rfl)

/-! ### impl_isHeld_1: function 115 -/
def impl_isHeld_1.f (k : Nat) (a0 : S69) (a1 : Int) : Option Bool := (impl_heldBy.f a0).bind fun t609 => (slices_Contains_int_int.f k t609 a1).bind fun t610 => some t610
theorem impl_isHeld_1.go : Callable Tryz.prog 115 := ⟨_, Tryz.func115, by kernel_rfl, rfl⟩
theorem impl_isHeld_1.ok (k : Nat) (a0 : S69) (a1 : Int) (r : Bool) (h : impl_isHeld_1.f k a0 a1 = some r) : VCalls Tryz.prog 115 [.agg (e69 a0), .ptr [.sc (.int .i64 a1)]] [.c (.p (.sc (.bool r)))] := by
  unfold impl_isHeld_1.f at h
  refine VCalls.of (fn := Tryz.f115) (N := 8) Tryz.func115 rfl rfl (fun w0 => ?_)
  obtain ⟨t609, g1863, h⟩ := bindN h
  let C1863 := mkCon (impl_heldBy.ok a0 t609 g1863) impl_heldBy.go
  obtain ⟨t610, g1864, h⟩ := bindN h
  let C1864 := mkCon (slices_Contains_int_int.ok k t609 a1 t610 g1864) slices_Contains_int_int.go
  cases h
  exact byRet MX Tryz.func115 1000 [.call C1863, .call C1864, .fin] (oa (sc_ C1863) (oa (sc_ C1864) on)) (by kernel_rfl)

/-! ### slices_ContainsFunc_impl_Robot_impl_Robot_1: function 114 -/
def slices_ContainsFunc_impl_Robot_impl_Robot_1.f (k : Nat) (a0 : List S69) (p1 : S69 → Option Bool) : Option Bool := (slices_IndexFunc_impl_Robot_impl_Robot_1.f k a0 p1).bind fun t611 => some (decide (0 ≤ t611))
theorem slices_ContainsFunc_impl_Robot_impl_Robot_1.go : Callable Tryz.prog 114 := ⟨_, Tryz.func114, by kernel_rfl, rfl⟩
theorem slices_ContainsFunc_impl_Robot_impl_Robot_1.ok (k : Nat) (a0 : List S69) (p1 : S69 → Option Bool) (gi1 : FuncId) (u1_0_0 : V) (hp1 : ∀ x0 r, p1 x0 = some r → VCalls Tryz.prog gi1 [.agg (e69 x0), .ptr [u1_0_0]] [.c (.p (.sc (.bool r)))]) (go1 : Callable Tryz.prog gi1) (r : Bool) (h : slices_ContainsFunc_impl_Robot_impl_Robot_1.f k a0 p1 = some r) : VCalls Tryz.prog 114 [.c (R 4 e69 z69 a0), .fn gi1 [[u1_0_0]]] [.c (.p (.sc (.bool r)))] := by
  unfold slices_ContainsFunc_impl_Robot_impl_Robot_1.f at h
  refine VCalls.of (fn := Tryz.f114) (N := 9) Tryz.func114 rfl rfl (fun w0 => ?_)
  obtain ⟨t611, g1866, h⟩ := bindN h
  let C1866 := mkCon (slices_IndexFunc_impl_Robot_impl_Robot_1.ok k a0 p1 gi1 u1_0_0 hp1 go1 t611 g1866) slices_IndexFunc_impl_Robot_impl_Robot_1.go
  cases h
  exact byRet MX Tryz.func114 1000 [.call C1866, .fin] (oa (sc_ C1866) on) (by kernel_rfl)

/-! ### impl_isHeld: function 54 -/
def impl_isHeld.f (k : Nat) (a0 : List S69) (a1 : Int) : Option Bool := if 0 ≤ a1 then ((slices_ContainsFunc_impl_Robot_impl_Robot_1.f k a0 (fun x1865 => impl_isHeld_1.f k x1865 a1)).bind fun t612 => some t612) else (some false)
theorem impl_isHeld.go : Callable Tryz.prog 54 := ⟨_, Tryz.func54, by kernel_rfl, rfl⟩
theorem impl_isHeld.ok (k : Nat) (a0 : List S69) (a1 : Int) (r : Bool) (h : impl_isHeld.f k a0 a1 = some r) : VCalls Tryz.prog 54 [.c (R 4 e69 z69 a0), .c (.sc (.int .i64 a1))] [.c (.p (.sc (.bool r)))] := by
  unfold impl_isHeld.f at h
  refine VCalls.of (fn := Tryz.f54) (N := 12) Tryz.func54 rfl rfl (fun w0 => ?_)
  by_cases c1862 : 0 ≤ a1
  · replace h := (if_pos c1862).symm.trans h
    obtain ⟨t612, g1867, h⟩ := bindN h
    let C1867 := mkCon (slices_ContainsFunc_impl_Robot_impl_Robot_1.ok k a0 (fun x1865 => impl_isHeld_1.f k x1865 a1) 115 (.sc (.int .i64 a1)) (fun x1865 r h => impl_isHeld_1.ok k x1865 a1 r h) impl_isHeld_1.go t612 g1867) slices_ContainsFunc_impl_Robot_impl_Robot_1.go
    cases h
    exact byRet MX Tryz.func54 1000 [.dec 7 true, .call C1867, .fin] (o1 (decide_eq_true c1862) (oa (sc_ C1867) on)) (by kernel_rfl)
  · replace h := (if_neg c1862).symm.trans h
    cases h
    exact byRet MX Tryz.func54 1000 [.dec 7 false, .fin] (o1 (decide_eq_false c1862) on) (by kernel_rfl)

/-! ### impl_OrdersOf: function 17 -/
def impl_OrdersOf.h0T (t607 : Int) (a0 : S48) (v617 : Int) (v616 : List S92) : List (Nat × AV) := [(1, .ptr 64 0), (3, .t (.c (.p true (.sc (.int .i64 t607))))), (4, .t (.c (.h 320256))), (19, .t (.c (.p false (R 3 e74 z74 a0.f6)))), (20, .t (.c (.p true (.sc (.int .i64 (a0.f6.length : Int)))))), (21, .t (.c (.p true (.sc (.int .i64 v617)))))]
def impl_OrdersOf.h0H (t607 : Int) (a0 : S48) (v617 : Int) (v616 : List S92) : List (Nat × Content) := [(64, .box 48 [.p false (.sc (.int .i64 a0.f0.f0.f0)), .p false (.sc (.int .i64 a0.f0.f0.f1)), .p false (.sc (.string a0.f0.f0.f2)), .p false (.sc (.int .i64 a0.f0.f1)), .p false (.sc (.int .i64 a0.f0.f2)), .p false (.sc (.int .i64 a0.f0.f3)), .p false (.sc (.int .i64 a0.f0.f4)), .p false (R 4 e69 z69 a0.f1), .p false (.sc (.int .i64 a0.f2.f0)), .p false (.sc (.int .i64 a0.f2.f1)), .p false (R 1 (eI .i64) 0 a0.f2.f2), .p false (.sc (.int .i64 a0.f3)), .p false (.sc (.bool a0.f4)), .p false (.sc (.int .i64 a0.f5.f0)), .p false (.sc (.int .i64 a0.f5.f1)), .p false (R 1 e72 z72 a0.f5.f2), .p false (R 3 e74 z74 a0.f6), .p false (R 1 (eI .i64) 0 a0.f7)]), (320256, .row 92 3 v616.length (fun j => e92 (v616.getD j z92)) true)]
def impl_OrdersOf.l0 : Nat → S48 → Int → List S92 → Int → Option (List S92)
  | 0, _, _, _, _ => none
  | kq + 1, a0, t607, v616, v617 => if v617 < (a0.f6.length : Int) then (if 0 ≤ v617 then (if v617 < (a0.f5.f2.length : Int) then (if (rdD z74 a0.f6 v617).f2 = true then (impl_OrdersOf.l0 kq a0 t607 v616 (w64 (v617 + 1))) else (if (rdD z74 a0.f6 v617).f1 = t607 then (if 0 ≤ (w64 ((rdD z74 a0.f6 v617).f1 + 1)) then (if (w64 ((rdD z74 a0.f6 v617).f1 + 1)) < (((rdD z72 a0.f5.f2 v617).f0).length : Int) then ((impl_isHeld.f kq a0.f1 (rdD 0 ((rdD z72 a0.f5.f2 v617).f0) (w64 ((rdD z74 a0.f6 v617).f1 + 1)))).bind fun t618 => if t618 = true then (impl_OrdersOf.l0 kq a0 t607 v616 (w64 (v617 + 1))) else (if 0 ≤ (rdD z74 a0.f6 v617).f1 then (if (rdD z74 a0.f6 v617).f1 < (((rdD z72 a0.f5.f2 v617).f0).length : Int) then (if (v616.length + 1) * 24 ≤ 140737488355328 then (impl_OrdersOf.l0 kq a0 t607 (v616 ++ [(⟨(rdD z74 a0.f6 v617).f0, (rdD 0 ((rdD z72 a0.f5.f2 v617).f0) ((rdD z74 a0.f6 v617).f1)), (rdD 0 ((rdD z72 a0.f5.f2 v617).f0) (w64 ((rdD z74 a0.f6 v617).f1 + 1)))⟩ : S92)]) (w64 (v617 + 1))) else none) else none) else none)) else none) else none) else (impl_OrdersOf.l0 kq a0 t607 v616 (w64 (v617 + 1))))) else none) else none) else (some v616)
def impl_OrdersOf.f (k : Nat) (a0 : S48) : Option (List S92) := (impl_YardOk.f k a0).bind fun t606 => if t606 = true then (if a0.f4 = true then ((impl_LayerOf.f k a0).bind fun t607 => impl_OrdersOf.l0 k a0 t607 ([] : List S92) 0) else (some ([] : List S92))) else (some ([] : List S92))
theorem impl_OrdersOf.go : Callable Tryz.prog 17 := ⟨_, Tryz.func17, by kernel_rfl, rfl⟩
theorem impl_OrdersOf.ok (k : Nat) (a0 : S48) (r : (List S92)) (h : impl_OrdersOf.f k a0 = some r) : VCalls Tryz.prog 17 [.agg (e48 a0)] [.c (.own 92 3 r.length (fun j => e92 (r.getD j z92)))] := by
  unfold impl_OrdersOf.f at h
  refine VCalls.of (fn := Tryz.f17) (N := 71) Tryz.func17 rfl rfl (fun w0 => ?_)
  obtain ⟨t606, g1848, h⟩ := bindN h
  let C1848 := mkCon (impl_YardOk.ok k a0 t606 g1848) impl_YardOk.go
  by_cases c1849 : t606 = true
  · replace h := (if_pos c1849).symm.trans h
    by_cases c1850 : a0.f4 = true
    · replace h := (if_pos c1850).symm.trans h
      obtain ⟨t607, g1851, h⟩ := bindN h
      let C1851 := mkCon (impl_LayerOf.ok k a0 t607 g1851) impl_LayerOf.go
      have H0 : ∀ (kq : Nat) (v616 : List S92) (v617 : Int), impl_OrdersOf.l0 kq a0 t607 v616 v617 = some r → AG Tryz.prog 17 71 [.c (.own 92 3 r.length (fun j => e92 (r.getD j z92)))] w0 (headStk (codeOf Tryz.f17) 0) (mkFS (impl_OrdersOf.h0T t607 a0 v617 v616) (impl_OrdersOf.h0H t607 a0 v617 v616)) := by
        intro kq
        induction kq with
        | zero => intro v616 v617 h; cases h
        | succ kq ih =>
          intro v616 v617 h
          rw [impl_OrdersOf.l0] at h
          by_cases c1885 : v617 < (a0.f6.length : Int)
          · replace h := (if_pos c1885).symm.trans h
            obtain ⟨c1886, h⟩ := ifN h
            obtain ⟨c1887, h⟩ := ifN h
            by_cases c1888 : (rdD z74 a0.f6 v617).f2 = true
            · replace h := (if_pos c1888).symm.trans h
              exact byHead MX Tryz.func17 1000 [.b true, .dec 35 true, .b true, .fin, .fin] (o1 (decide_eq_true c1885) (o1 c1886 (o1 c1885 (o1 c1886 (o1 c1887 (o1 c1888 (o1 (rfl : true = true) on))))))) (ih v616 (w64 (v617 + 1)) h) (by kernel_rfl)
            · replace h := (if_neg c1888).symm.trans h
              by_cases c1889 : (rdD z74 a0.f6 v617).f1 = t607
              · replace h := (if_pos c1889).symm.trans h
                obtain ⟨c1890, h⟩ := ifN h
                obtain ⟨c1891, h⟩ := ifN h
                obtain ⟨t618, g1892, h⟩ := bindN h
                let C1892 := mkCon (impl_isHeld.ok kq a0.f1 (rdD 0 ((rdD z72 a0.f5.f2 v617).f0) (w64 ((rdD z74 a0.f6 v617).f1 + 1))) t618 g1892) impl_isHeld.go
                by_cases c1893 : t618 = true
                · replace h := (if_pos c1893).symm.trans h
                  exact byHead MX Tryz.func17 1000 [.b true, .dec 35 false, .dec 41 false, .call C1892, .b true, .fin, .fin] (o1 (decide_eq_true c1885) (o1 c1886 (o1 c1885 (o1 c1886 (o1 c1887 (o1 (eqf c1888) (o1 (bnf (decide_eq_true c1889)) (o1 c1890 (o1 c1891 (oa (sc_ C1892) (o1 c1893 on))))))))))) (ih v616 (w64 (v617 + 1)) h) (by kernel_rfl)
                · replace h := (if_neg c1893).symm.trans h
                  obtain ⟨c1894, h⟩ := ifN h
                  obtain ⟨c1895, h⟩ := ifN h
                  obtain ⟨c1896, h⟩ := ifN h
                  exact byHead MX Tryz.func17 1000 [.b true, .dec 35 false, .dec 41 false, .call C1892, .b false, rowe 67 e92 z92 ([(⟨(rdD z74 a0.f6 v617).f0, (rdD 0 ((rdD z72 a0.f5.f2 v617).f0) ((rdD z74 a0.f6 v617).f1)), (rdD 0 ((rdD z72 a0.f5.f2 v617).f0) (w64 ((rdD z74 a0.f6 v617).f1 + 1)))⟩ : S92)]), .aft 68, orow 320256 e92 z92 (v616 ++ [(⟨(rdD z74 a0.f6 v617).f0, (rdD 0 ((rdD z72 a0.f5.f2 v617).f0) ((rdD z74 a0.f6 v617).f1)), (rdD 0 ((rdD z72 a0.f5.f2 v617).f0) (w64 ((rdD z74 a0.f6 v617).f1 + 1)))⟩ : S92)]), .fin] (o1 (decide_eq_true c1885) (o1 c1886 (o1 c1885 (o1 c1886 (o1 c1887 (o1 (eqf c1888) (o1 (bnf (decide_eq_true c1889)) (o1 c1890 (o1 c1891 (oa (sc_ C1892) (o1 (eqf c1893) (o1 c1894 (o1 c1895 (o1 c1890 (o1 c1891 (o1 (GE.lit 3 e92 z92 [(⟨(rdD z74 a0.f6 v617).f0, (rdD 0 ((rdD z72 a0.f5.f2 v617).f0) ((rdD z74 a0.f6 v617).f1)), (rdD 0 ((rdD z72 a0.f5.f2 v617).f0) (w64 ((rdD z74 a0.f6 v617).f1 + 1)))⟩ : S92)] (by intro x; rfl)) (o1 c1896 (o1 (GE.app (e := e92) (d := z92) v616 ([(⟨(rdD z74 a0.f6 v617).f0, (rdD 0 ((rdD z72 a0.f5.f2 v617).f0) ((rdD z74 a0.f6 v617).f1)), (rdD 0 ((rdD z72 a0.f5.f2 v617).f0) (w64 ((rdD z74 a0.f6 v617).f1 + 1)))⟩ : S92)]) rfl (fun _ _ => CE.refl _) rfl) on)))))))))))))))))) (ih (v616 ++ [(⟨(rdD z74 a0.f6 v617).f0, (rdD 0 ((rdD z72 a0.f5.f2 v617).f0) ((rdD z74 a0.f6 v617).f1)), (rdD 0 ((rdD z72 a0.f5.f2 v617).f0) (w64 ((rdD z74 a0.f6 v617).f1 + 1)))⟩ : S92)]) (w64 (v617 + 1)) h) (by kernel_rfl)
              · replace h := (if_neg c1889).symm.trans h
                exact byHead MX Tryz.func17 1000 [.b true, .dec 35 false, .dec 41 true, .b true, .fin, .fin] (o1 (decide_eq_true c1885) (o1 c1886 (o1 c1885 (o1 c1886 (o1 c1887 (o1 (eqf c1888) (o1 (bnt (decide_eq_false c1889)) (o1 (rfl : true = true) on)))))))) (ih v616 (w64 (v617 + 1)) h) (by kernel_rfl)
          · replace h := (if_neg c1885).symm.trans h
            cases h
            exact byRet MX Tryz.func17 1000 [.b false, .fin, .fin] (o1 (decide_eq_false c1885) on) (by kernel_rfl)
      exact byHead MX Tryz.func17 1000 [.call C1848, .dec 11 false, .b false, .call C1851, .fin, .nil 4 320256 92 3, orow 320256 e92 z92 ([] : List S92)] (oa (sc_ C1848) (o1 (bnf c1849) (o1 (bnf c1850) (oa (sc_ C1851) (o1 (GE.nil e92 z92) on))))) (H0 k ([] : List S92) 0 h) (by kernel_rfl)
    · replace h := (if_neg c1850).symm.trans h
      cases h
      exact byRet MX Tryz.func17 1000 [.call C1848, .dec 11 false, .b true, .fin, .nil 2 384128 92 3, orow 384128 e92 z92 ([] : List S92)] (oa (sc_ C1848) (o1 (bnf c1849) (o1 (bnt (eqf c1850)) (o1 (GE.nil e92 z92) on)))) (by kernel_rfl)
  · replace h := (if_neg c1849).symm.trans h
    cases h
    exact byRet MX Tryz.func17 1000 [.call C1848, .dec 11 true, .b true, .fin, .nil 2 384128 92 3, orow 384128 e92 z92 ([] : List S92)] (oa (sc_ C1848) (o1 (bnt (eqf c1849)) (o1 (rfl : true = true) (o1 (GE.nil e92 z92) on)))) (by kernel_rfl)

/-! ### laws_eqOrder: function 55 -/
def laws_eqOrder.f (a0 : S92) (a1 : S92) : Option Bool := if a0.f0 = a1.f0 then (if a0.f1 = a1.f1 then (if a0.f2 = a1.f2 then (some true) else (some false)) else (some false)) else (some false)
theorem laws_eqOrder.go : Callable Tryz.prog 55 := ⟨_, Tryz.func55, by kernel_rfl, rfl⟩
theorem laws_eqOrder.ok (a0 : S92) (a1 : S92) (r : Bool) (h : laws_eqOrder.f a0 a1 = some r) : VCalls Tryz.prog 55 [.agg (e92 a0), .agg (e92 a1)] [.c (.p (.sc (.bool r)))] := by
  unfold laws_eqOrder.f at h
  refine VCalls.of (fn := Tryz.f55) (N := 20) Tryz.func55 rfl rfl (fun w0 => ?_)
  by_cases c1901 : a0.f0 = a1.f0
  · replace h := (if_pos c1901).symm.trans h
    by_cases c1902 : a0.f1 = a1.f1
    · replace h := (if_pos c1902).symm.trans h
      by_cases c1903 : a0.f2 = a1.f2
      · replace h := (if_pos c1903).symm.trans h
        cases h
        exact byRet MX Tryz.func55 1000 [.b false, .b false, .b false, .fin] (o1 (bnf (decide_eq_true c1901)) (o1 (bnf (decide_eq_true c1902)) (o1 (bnf (decide_eq_true c1903)) on))) (by kernel_rfl)
      · replace h := (if_neg c1903).symm.trans h
        cases h
        exact byRet MX Tryz.func55 1000 [.b false, .b false, .b true, .fin] (o1 (bnf (decide_eq_true c1901)) (o1 (bnf (decide_eq_true c1902)) (o1 (bnt (decide_eq_false c1903)) on))) (by kernel_rfl)
    · replace h := (if_neg c1902).symm.trans h
      cases h
      exact byRet MX Tryz.func55 1000 [.b false, .b true, .fin] (o1 (bnf (decide_eq_true c1901)) (o1 (bnt (decide_eq_false c1902)) on)) (by kernel_rfl)
  · replace h := (if_neg c1901).symm.trans h
    cases h
    exact byRet MX Tryz.func55 1000 [.b true, .fin] (o1 (bnt (decide_eq_false c1901)) on) (by kernel_rfl)

/-! ### laws_eqOrderS: function 18 -/
def laws_eqOrderS.h0T (a0 : List S92) (a1 : List S92) (v621 : Int) : List (Nat × AV) := [(0, .t (.c (.p false (R 3 e92 z92 a0)))), (1, .t (.c (.p false (R 3 e92 z92 a1)))), (5, .t (.c (.p true (.sc (.int .i64 v621)))))]
def laws_eqOrderS.h0H (a0 : List S92) (a1 : List S92) (v621 : Int) : List (Nat × Content) := []
def laws_eqOrderS.l0 : Nat → List S92 → List S92 → Int → Option Bool
  | 0, _, _, _ => none
  | kq + 1, a0, a1, v621 => if v621 < (a0.length : Int) then (if 0 ≤ v621 then (if v621 < (a1.length : Int) then ((laws_eqOrder.f (rdD z92 a0 v621) (rdD z92 a1 v621)).bind fun t622 => if t622 = true then (laws_eqOrderS.l0 kq a0 a1 (w64 (v621 + 1))) else (some false)) else none) else none) else (some true)
def laws_eqOrderS.f (k : Nat) (a0 : List S92) (a1 : List S92) : Option Bool := if (a0.length : Int) = (a1.length : Int) then (laws_eqOrderS.l0 k a0 a1 0) else (some false)
theorem laws_eqOrderS.go : Callable Tryz.prog 18 := ⟨_, Tryz.func18, by kernel_rfl, rfl⟩
theorem laws_eqOrderS.ok (k : Nat) (a0 : List S92) (a1 : List S92) (r : Bool) (h : laws_eqOrderS.f k a0 a1 = some r) : VCalls Tryz.prog 18 [.c (R 3 e92 z92 a0), .c (R 3 e92 z92 a1)] [.c (.p (.sc (.bool r)))] := by
  unfold laws_eqOrderS.f at h
  refine VCalls.of (fn := Tryz.f18) (N := 27) Tryz.func18 rfl rfl (fun w0 => ?_)
  by_cases c1898 : (a0.length : Int) = (a1.length : Int)
  · replace h := (if_pos c1898).symm.trans h
    have H0 : ∀ (kq : Nat) (v621 : Int), laws_eqOrderS.l0 kq a0 a1 v621 = some r → AG Tryz.prog 18 27 [.c (.p (.sc (.bool r)))] w0 (headStk (codeOf Tryz.f18) 0) (mkFS (laws_eqOrderS.h0T a0 a1 v621) (laws_eqOrderS.h0H a0 a1 v621)) := by
      intro kq
      induction kq with
      | zero => intro v621 h; cases h
      | succ kq ih =>
        intro v621 h
        rw [laws_eqOrderS.l0] at h
        by_cases c1906 : v621 < (a0.length : Int)
        · replace h := (if_pos c1906).symm.trans h
          obtain ⟨c1907, h⟩ := ifN h
          obtain ⟨c1908, h⟩ := ifN h
          obtain ⟨t622, g1909, h⟩ := bindN h
          let C1909 := mkCon (laws_eqOrder.ok (rdD z92 a0 v621) (rdD z92 a1 v621) t622 g1909) laws_eqOrder.go
          by_cases c1910 : t622 = true
          · replace h := (if_pos c1910).symm.trans h
            exact byHead MX Tryz.func18 1000 [.b true, .call C1909, .b false, .fin] (o1 (decide_eq_true c1906) (o1 c1907 (o1 c1906 (o1 c1907 (o1 c1908 (oa (sc_ C1909) (o1 (bnf c1910) on))))))) (ih (w64 (v621 + 1)) h) (by kernel_rfl)
          · replace h := (if_neg c1910).symm.trans h
            cases h
            exact byRet MX Tryz.func18 1000 [.b true, .call C1909, .b true, .fin] (o1 (decide_eq_true c1906) (o1 c1907 (o1 c1906 (o1 c1907 (o1 c1908 (oa (sc_ C1909) (o1 (bnt (eqf c1910)) on))))))) (by kernel_rfl)
        · replace h := (if_neg c1906).symm.trans h
          cases h
          exact byRet MX Tryz.func18 1000 [.b false, .fin, .fin] (o1 (decide_eq_false c1906) on) (by kernel_rfl)
    exact byHead MX Tryz.func18 1000 [.b false, .fin] (o1 (bnf (decide_eq_true c1898)) on) (H0 k 0 h) (by kernel_rfl)
  · replace h := (if_neg c1898).symm.trans h
    cases h
    exact byRet MX Tryz.func18 1000 [.b true, .fin] (o1 (bnt (decide_eq_false c1898)) on) (by kernel_rfl)

/-! ### laws_eqGrid: function 106 -/
def laws_eqGrid.f (a0 : S38) (a1 : S38) : Option Bool := if a0.f0 = a1.f0 then (if a0.f1 = a1.f1 then (if (a0.f2.toList == a1.f2.toList) = true then (some true) else (some false)) else (some false)) else (some false)
theorem laws_eqGrid.go : Callable Tryz.prog 106 := ⟨_, Tryz.func106, by kernel_rfl, rfl⟩
theorem laws_eqGrid.ok (a0 : S38) (a1 : S38) (r : Bool) (h : laws_eqGrid.f a0 a1 = some r) : VCalls Tryz.prog 106 [.agg (e38 a0), .agg (e38 a1)] [.c (.p (.sc (.bool r)))] := by
  unfold laws_eqGrid.f at h
  refine VCalls.of (fn := Tryz.f106) (N := 20) Tryz.func106 rfl rfl (fun w0 => ?_)
  by_cases c1914 : a0.f0 = a1.f0
  · replace h := (if_pos c1914).symm.trans h
    by_cases c1915 : a0.f1 = a1.f1
    · replace h := (if_pos c1915).symm.trans h
      by_cases c1916 : (a0.f2.toList == a1.f2.toList) = true
      · replace h := (if_pos c1916).symm.trans h
        cases h
        exact byRet MX Tryz.func106 1000 [.b false, .b false, .b false, .fin] (o1 (bnf (decide_eq_true c1914)) (o1 (bnf (decide_eq_true c1915)) (o1 (bnf c1916) on))) (by kernel_rfl)
      · replace h := (if_neg c1916).symm.trans h
        cases h
        exact byRet MX Tryz.func106 1000 [.b false, .b false, .b true, .fin] (o1 (bnf (decide_eq_true c1914)) (o1 (bnf (decide_eq_true c1915)) (o1 (bnt (eqf c1916)) on))) (by kernel_rfl)
    · replace h := (if_neg c1915).symm.trans h
      cases h
      exact byRet MX Tryz.func106 1000 [.b false, .b true, .fin] (o1 (bnf (decide_eq_true c1914)) (o1 (bnt (decide_eq_false c1915)) on)) (by kernel_rfl)
  · replace h := (if_neg c1914).symm.trans h
    cases h
    exact byRet MX Tryz.func106 1000 [.b true, .fin] (o1 (bnt (decide_eq_false c1914)) on) (by kernel_rfl)

/-! ### laws_eqSetup: function 42 -/
def laws_eqSetup.f (a0 : S40) (a1 : S40) : Option Bool := (laws_eqGrid.f a0.f0 a1.f0).bind fun t625 => if t625 = true then (if a0.f1 = a1.f1 then (if a0.f2 = a1.f2 then (if a0.f3 = a1.f3 then (if a0.f4 = a1.f4 then (some true) else (some false)) else (some false)) else (some false)) else (some false)) else (some false)
theorem laws_eqSetup.go : Callable Tryz.prog 42 := ⟨_, Tryz.func42, by kernel_rfl, rfl⟩
theorem laws_eqSetup.ok (a0 : S40) (a1 : S40) (r : Bool) (h : laws_eqSetup.f a0 a1 = some r) : VCalls Tryz.prog 42 [.agg (e40 a0), .agg (e40 a1)] [.c (.p (.sc (.bool r)))] := by
  unfold laws_eqSetup.f at h
  refine VCalls.of (fn := Tryz.f42) (N := 31) Tryz.func42 rfl rfl (fun w0 => ?_)
  obtain ⟨t625, g1917, h⟩ := bindN h
  let C1917 := mkCon (laws_eqGrid.ok a0.f0 a1.f0 t625 g1917) laws_eqGrid.go
  by_cases c1918 : t625 = true
  · replace h := (if_pos c1918).symm.trans h
    by_cases c1919 : a0.f1 = a1.f1
    · replace h := (if_pos c1919).symm.trans h
      by_cases c1920 : a0.f2 = a1.f2
      · replace h := (if_pos c1920).symm.trans h
        by_cases c1921 : a0.f3 = a1.f3
        · replace h := (if_pos c1921).symm.trans h
          by_cases c1922 : a0.f4 = a1.f4
          · replace h := (if_pos c1922).symm.trans h
            cases h
            exact byRet MX Tryz.func42 1000 [.call C1917, .b false, .b false, .b false, .b false, .b false, .fin] (oa (sc_ C1917) (o1 (bnf c1918) (o1 (bnf (decide_eq_true c1919)) (o1 (bnf (decide_eq_true c1920)) (o1 (bnf (decide_eq_true c1921)) (o1 (bnf (decide_eq_true c1922)) on)))))) (by kernel_rfl)
          · replace h := (if_neg c1922).symm.trans h
            cases h
            exact byRet MX Tryz.func42 1000 [.call C1917, .b false, .b false, .b false, .b false, .b true, .fin] (oa (sc_ C1917) (o1 (bnf c1918) (o1 (bnf (decide_eq_true c1919)) (o1 (bnf (decide_eq_true c1920)) (o1 (bnf (decide_eq_true c1921)) (o1 (bnt (decide_eq_false c1922)) on)))))) (by kernel_rfl)
        · replace h := (if_neg c1921).symm.trans h
          cases h
          exact byRet MX Tryz.func42 1000 [.call C1917, .b false, .b false, .b false, .b true, .fin] (oa (sc_ C1917) (o1 (bnf c1918) (o1 (bnf (decide_eq_true c1919)) (o1 (bnf (decide_eq_true c1920)) (o1 (bnt (decide_eq_false c1921)) on))))) (by kernel_rfl)
      · replace h := (if_neg c1920).symm.trans h
        cases h
        exact byRet MX Tryz.func42 1000 [.call C1917, .b false, .b false, .b true, .fin] (oa (sc_ C1917) (o1 (bnf c1918) (o1 (bnf (decide_eq_true c1919)) (o1 (bnt (decide_eq_false c1920)) on)))) (by kernel_rfl)
    · replace h := (if_neg c1919).symm.trans h
      cases h
      exact byRet MX Tryz.func42 1000 [.call C1917, .b false, .b true, .fin] (oa (sc_ C1917) (o1 (bnf c1918) (o1 (bnt (decide_eq_false c1919)) on))) (by kernel_rfl)
  · replace h := (if_neg c1918).symm.trans h
    cases h
    exact byRet MX Tryz.func42 1000 [.call C1917, .b true, .fin] (oa (sc_ C1917) (o1 (bnt (eqf c1918)) on)) (by kernel_rfl)
end Go.Proofs.YtoaknaceaghclaaGreat.V
