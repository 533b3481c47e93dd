/- What each Go function computes, and that the machine does so: printed by a program of this session (avgen.py). -/
import Derived.Test.YtnnppdjmhellcaaGreatV9
namespace Go.Proofs.YtnnppdjmhellcaaGreat.V
open Go Go.Av Go.Proofs
set_option linter.unusedVariables false
set_option maxRecDepth 100000
/-! ### slices_ContainsFunc_int_int_1: function 49 -/
def slices_ContainsFunc_int_int_1.f (k : Nat) (a0 : List Int) (p1 : Int → Option Bool) : Option Bool := (slices_IndexFunc_int_int_1.f k a0 p1).bind fun t576 => some (decide (0 ≤ t576))
theorem slices_ContainsFunc_int_int_1.go : Callable Tryz.prog 49 := ⟨_, Tryz.func49, by kernel_rfl, rfl⟩
theorem slices_ContainsFunc_int_int_1.ok (k : Nat) (a0 : List Int) (p1 : Int → Option Bool) (gi1 : FuncId) (u1_0_0 : V) (hp1 : ∀ x0 r, p1 x0 = some r → VCalls Tryz.prog gi1 [.c (.sc (.int .i64 x0)), .ptr [u1_0_0]] [.c (.p (.sc (.bool r)))]) (go1 : Callable Tryz.prog gi1) (r : Bool) (h : slices_ContainsFunc_int_int_1.f k a0 p1 = some r) : VCalls Tryz.prog 49 [.c (R 1 (eI .i64) 0 a0), .fn gi1 [[u1_0_0]]] [.c (.p (.sc (.bool r)))] := by
  unfold slices_ContainsFunc_int_int_1.f at h
  refine VCalls.of (fn := Tryz.f49) (N := 9) Tryz.func49 rfl rfl (fun w0 => ?_)
  obtain ⟨t576, g1765, h⟩ := bindN h
  let C1765 := mkCon (slices_IndexFunc_int_int_1.ok k a0 p1 gi1 u1_0_0 hp1 go1 t576 g1765) slices_IndexFunc_int_int_1.go
  cases h
  exact byRet MX Tryz.func49 1000 [.call C1765, .fin] (oa (sc_ C1765) on) (by kernel_rfl)

/-! ### impl_movesAfter: function 60 -/
def impl_movesAfter.h0T (v579 : Int) (v580 : Int) (a0 : S65) : List (Nat × AV) := [(2, .ptr 128 0), (5, .t (.c (.p true (.sc (.int .i64 v579))))), (6, .t (.c (.p true (.sc (.int .i64 v580)))))]
def impl_movesAfter.h0H (v579 : Int) (v580 : Int) (a0 : S65) : List (Nat × Content) := [(128, .box 65 [.p false (R 1 (eI .i64) 0 a0.f0)])]
def impl_movesAfter.l0 : Nat → S65 → Int → Int → Option Int
  | 0, _, _, _ => none
  | kq + 1, a0, v579, v580 => if v580 < (a0.f0.length : Int) then (if 0 ≤ v580 then (if 0 ≤ (w64 (v580 - 1)) then (if (w64 (v580 - 1)) < (a0.f0.length : Int) then (if (rdD 0 a0.f0 v580) = (rdD 0 a0.f0 (w64 (v580 - 1))) then (impl_movesAfter.l0 kq a0 v579 (w64 (v580 + 1))) else (impl_movesAfter.l0 kq a0 (w64 (v579 + 1)) (w64 (v580 + 1)))) else none) else none) else none) else (some v579)
def impl_movesAfter.f (k : Nat) (a0 : S65) (a1 : Int) : Option Int := impl_movesAfter.l0 k a0 0 (w64 ((if 0 > a1 then 0 else a1) + 1))
theorem impl_movesAfter.go : Callable Tryz.prog 60 := ⟨_, Tryz.func60, by kernel_rfl, rfl⟩
theorem impl_movesAfter.ok (k : Nat) (a0 : S65) (a1 : Int) (r : Int) (h : impl_movesAfter.f k a0 a1 = some r) : VCalls Tryz.prog 60 [.agg (e65 a0), .c (.sc (.int .i64 a1))] [.c (.p (.sc (.int .i64 r)))] := by
  unfold impl_movesAfter.f at h
  refine VCalls.of (fn := Tryz.f60) (N := 32) Tryz.func60 rfl rfl (fun w0 => ?_)
  have H0 : ∀ (kq : Nat) (v579 : Int) (v580 : Int), impl_movesAfter.l0 kq a0 v579 v580 = some r → AG Tryz.prog 60 32 [.c (.p (.sc (.int .i64 r)))] w0 (headStk (codeOf Tryz.f60) 0) (mkFS (impl_movesAfter.h0T v579 v580 a0) (impl_movesAfter.h0H v579 v580 a0)) := by
    intro kq
    induction kq with
    | zero => intro v579 v580 h; cases h
    | succ kq ih =>
      intro v579 v580 h
      rw [impl_movesAfter.l0] at h
      by_cases c1779 : v580 < (a0.f0.length : Int)
      · replace h := (if_pos c1779).symm.trans h
        obtain ⟨c1780, h⟩ := ifN h
        obtain ⟨c1781, h⟩ := ifN h
        obtain ⟨c1782, h⟩ := ifN h
        by_cases c1783 : (rdD 0 a0.f0 v580) = (rdD 0 a0.f0 (w64 (v580 - 1)))
        · replace h := (if_pos c1783).symm.trans h
          exact byHead MX Tryz.func60 1000 [.b true, .b false, .fin] (o1 (decide_eq_true c1779) (o1 c1780 (o1 c1779 (o1 c1781 (o1 c1782 (o1 (bnf (decide_eq_true c1783)) on)))))) (ih v579 (w64 (v580 + 1)) h) (by kernel_rfl)
        · replace h := (if_neg c1783).symm.trans h
          exact byHead MX Tryz.func60 1000 [.b true, .b true, .fin] (o1 (decide_eq_true c1779) (o1 c1780 (o1 c1779 (o1 c1781 (o1 c1782 (o1 (bnt (decide_eq_false c1783)) on)))))) (ih (w64 (v579 + 1)) (w64 (v580 + 1)) h) (by kernel_rfl)
      · replace h := (if_neg c1779).symm.trans h
        cases h
        exact byRet MX Tryz.func60 1000 [.b false, .fin, .fin] (o1 (decide_eq_false c1779) on) (by kernel_rfl)
  exact byHead MX Tryz.func60 1000 [.fin] on (H0 k 0 (w64 ((if 0 > a1 then 0 else a1) + 1)) h) (by kernel_rfl)

/-! ### impl_MovesOf: function 103 -/
def impl_MovesOf.h0T (v584 : Int) (a0 : List S65) (v585 : Int) : List (Nat × AV) := [(3, .t (.c (.p true (.sc (.int .i64 v584))))), (6, .t (.c (.p false (R 1 e65 z65 a0)))), (7, .t (.c (.p true (.sc (.int .i64 (a0.length : Int)))))), (8, .t (.c (.p true (.sc (.int .i64 v585)))))]
def impl_MovesOf.h0H (v584 : Int) (a0 : List S65) (v585 : Int) : List (Nat × Content) := []
def impl_MovesOf.l0 : Nat → List S65 → Int → Int → Option Int
  | 0, _, _, _ => none
  | kq + 1, a0, v584, v585 => if v585 < (a0.length : Int) then (if 0 ≤ v585 then ((impl_movesAfter.f kq (rdD z65 a0 v585) 0).bind fun t586 => impl_MovesOf.l0 kq a0 (w64 (v584 + t586)) (w64 (v585 + 1))) else none) else (some v584)
def impl_MovesOf.f (k : Nat) (a0 : List S65) : Option Int := impl_MovesOf.l0 k a0 0 0
theorem impl_MovesOf.go : Callable Tryz.prog 103 := ⟨_, Tryz.func103, by kernel_rfl, rfl⟩
theorem impl_MovesOf.ok (k : Nat) (a0 : List S65) (r : Int) (h : impl_MovesOf.f k a0 = some r) : VCalls Tryz.prog 103 [.c (R 1 e65 z65 a0)] [.c (.p (.sc (.int .i64 r)))] := by
  unfold impl_MovesOf.f at h
  refine VCalls.of (fn := Tryz.f103) (N := 18) Tryz.func103 rfl rfl (fun w0 => ?_)
  have H0 : ∀ (kq : Nat) (v584 : Int) (v585 : Int), impl_MovesOf.l0 kq a0 v584 v585 = some r → AG Tryz.prog 103 18 [.c (.p (.sc (.int .i64 r)))] w0 (headStk (codeOf Tryz.f103) 0) (mkFS (impl_MovesOf.h0T v584 a0 v585) (impl_MovesOf.h0H v584 a0 v585)) := by
    intro kq
    induction kq with
    | zero => intro v584 v585 h; cases h
    | succ kq ih =>
      intro v584 v585 h
      rw [impl_MovesOf.l0] at h
      by_cases c1787 : v585 < (a0.length : Int)
      · replace h := (if_pos c1787).symm.trans h
        obtain ⟨c1788, h⟩ := ifN h
        obtain ⟨t586, g1789, h⟩ := bindN h
        let C1789 := mkCon (impl_movesAfter.ok kq (rdD z65 a0 v585) 0 t586 g1789) impl_movesAfter.go
        exact byHead MX Tryz.func103 1000 [.b true, .call C1789, .fin] (o1 (decide_eq_true c1787) (o1 c1788 (o1 c1787 (oa (sc_ C1789) on)))) (ih (w64 (v584 + t586)) (w64 (v585 + 1)) h) (by kernel_rfl)
      · replace h := (if_neg c1787).symm.trans h
        cases h
        exact byRet MX Tryz.func103 1000 [.b false, .fin, .fin] (o1 (decide_eq_false c1787) on) (by kernel_rfl)
  exact byHead MX Tryz.func103 1000 [.fin] on (H0 k 0 0 h) (by kernel_rfl)

/-! ### impl_PlanFault: function 44 -/
def impl_PlanFault.f (k : Nat) (a0 : S38) (a1 : List Int) (a2 : List Int) (a3 : S45) : Option Int := (impl_EndsOf.f k a3.f2).bind fun t496 => (impl_AskOk.f k a0 a1 a2 a3.f0).bind fun t503 => if t503 = true then ((impl_formFault.f k a1 a3).bind fun t505 => if t505 = true then (some 2) else ((impl_stepFault.f k a0 a3.f2).bind fun t519 => if t519 = true then (some 3) else ((impl_someTime_3.f k a3.f0 (fun x1669 => impl_PlanFault_1.f k x1669 a3)).bind fun t538 => if t538 = true then (some 4) else ((impl_someTime_3.f k a3.f0 (fun x1739 => impl_PlanFault_2.f k x1739 a3)).bind fun t562 => if t562 = true then (some 5) else ((impl_someTime_3.f k a3.f0 (fun x1753 => impl_PlanFault_3.f k x1753 a3)).bind fun t571 => if t571 = true then (some 6) else ((slices_ContainsFunc_int_int_1.f k a2 (fun x1757 => impl_PlanFault_4.f k x1757 t496)).bind fun t577 => if t577 = true then (some 7) else ((impl_MovesOf.f k a3.f2).bind fun t587 => if a3.f1 = t587 then (some 0) else (some 8)))))))) else (some 1)
theorem impl_PlanFault.go : Callable Tryz.prog 44 := ⟨_, Tryz.func44, by kernel_rfl, rfl⟩
theorem impl_PlanFault.ok (k : Nat) (a0 : S38) (a1 : List Int) (a2 : List Int) (a3 : S45) (r : Int) (h : impl_PlanFault.f k a0 a1 a2 a3 = some r) : VCalls Tryz.prog 44 [.agg (e38 a0), .c (R 1 (eI .i64) 0 a1), .c (R 1 (eI .i64) 0 a2), .agg (e45 a3)] [.c (.p (.sc (.int .i64 r)))] := by
  unfold impl_PlanFault.f at h
  refine VCalls.of (fn := Tryz.f44) (N := 56) Tryz.func44 rfl rfl (fun w0 => ?_)
  obtain ⟨t496, g1542, h⟩ := bindN h
  let C1542 := mkCon (impl_EndsOf.ok k a3.f2 t496 g1542) impl_EndsOf.go
  obtain ⟨t503, g1558, h⟩ := bindN h
  let C1558 := mkCon (impl_AskOk.ok k a0 a1 a2 a3.f0 t503 g1558) impl_AskOk.go
  by_cases c1559 : t503 = true
  · replace h := (if_pos c1559).symm.trans h
    obtain ⟨t505, g1572, h⟩ := bindN h
    let C1572 := mkCon (impl_formFault.ok k a1 a3 t505 g1572) impl_formFault.go
    by_cases c1573 : t505 = true
    · replace h := (if_pos c1573).symm.trans h
      cases h
      exact byRet MX Tryz.func44 1000 [.call C1542, .call C1558, .b false, .call C1572, .b true, .fin] (oa (sc_ C1542) (oa (sc_ C1558) (o1 (bnf c1559) (oa (sc_ C1572) (o1 c1573 on))))) (by kernel_rfl)
    · replace h := (if_neg c1573).symm.trans h
      obtain ⟨t519, g1614, h⟩ := bindN h
      let C1614 := mkCon (impl_stepFault.ok k a0 a3.f2 t519 g1614) impl_stepFault.go
      by_cases c1615 : t519 = true
      · replace h := (if_pos c1615).symm.trans h
        cases h
        exact byRet MX Tryz.func44 1000 [.call C1542, .call C1558, .b false, .call C1572, .b false, .call C1614, .b true, .fin] (oa (sc_ C1542) (oa (sc_ C1558) (o1 (bnf c1559) (oa (sc_ C1572) (o1 (eqf c1573) (oa (sc_ C1614) (o1 c1615 on))))))) (by kernel_rfl)
      · replace h := (if_neg c1615).symm.trans h
        obtain ⟨t538, g1676, h⟩ := bindN h
        let C1676 := mkCon (impl_someTime_3.ok k a3.f0 (fun x1669 => impl_PlanFault_1.f k x1669 a3) 96 (.sc (.int .i64 a3.f0)) (.sc (.int .i64 a3.f1)) (R 1 e65 z65 a3.f2) (fun x1669 r h => impl_PlanFault_1.ok k x1669 a3 r h) impl_PlanFault_1.go t538 g1676) impl_someTime_3.go
        by_cases c1677 : t538 = true
        · replace h := (if_pos c1677).symm.trans h
          cases h
          exact byRet MX Tryz.func44 1000 [.call C1542, .call C1558, .b false, .call C1572, .b false, .call C1614, .b false, .call C1676, .b true, .fin] (oa (sc_ C1542) (oa (sc_ C1558) (o1 (bnf c1559) (oa (sc_ C1572) (o1 (eqf c1573) (oa (sc_ C1614) (o1 (eqf c1615) (oa (sc_ C1676) (o1 c1677 on))))))))) (by kernel_rfl)
        · replace h := (if_neg c1677).symm.trans h
          obtain ⟨t562, g1740, h⟩ := bindN h
          let C1740 := mkCon (impl_someTime_3.ok k a3.f0 (fun x1739 => impl_PlanFault_2.f k x1739 a3) 98 (.sc (.int .i64 a3.f0)) (.sc (.int .i64 a3.f1)) (R 1 e65 z65 a3.f2) (fun x1739 r h => impl_PlanFault_2.ok k x1739 a3 r h) impl_PlanFault_2.go t562 g1740) impl_someTime_3.go
          by_cases c1741 : t562 = true
          · replace h := (if_pos c1741).symm.trans h
            cases h
            exact byRet MX Tryz.func44 1000 [.call C1542, .call C1558, .b false, .call C1572, .b false, .call C1614, .b false, .call C1676, .b false, .call C1740, .b true, .fin] (oa (sc_ C1542) (oa (sc_ C1558) (o1 (bnf c1559) (oa (sc_ C1572) (o1 (eqf c1573) (oa (sc_ C1614) (o1 (eqf c1615) (oa (sc_ C1676) (o1 (eqf c1677) (oa (sc_ C1740) (o1 c1741 on))))))))))) (by kernel_rfl)
          · replace h := (if_neg c1741).symm.trans h
            obtain ⟨t571, g1754, h⟩ := bindN h
            let C1754 := mkCon (impl_someTime_3.ok k a3.f0 (fun x1753 => impl_PlanFault_3.f k x1753 a3) 100 (.sc (.int .i64 a3.f0)) (.sc (.int .i64 a3.f1)) (R 1 e65 z65 a3.f2) (fun x1753 r h => impl_PlanFault_3.ok k x1753 a3 r h) impl_PlanFault_3.go t571 g1754) impl_someTime_3.go
            by_cases c1755 : t571 = true
            · replace h := (if_pos c1755).symm.trans h
              cases h
              exact byRet MX Tryz.func44 1000 [.call C1542, .call C1558, .b false, .call C1572, .b false, .call C1614, .b false, .call C1676, .b false, .call C1740, .b false, .call C1754, .b true, .fin] (oa (sc_ C1542) (oa (sc_ C1558) (o1 (bnf c1559) (oa (sc_ C1572) (o1 (eqf c1573) (oa (sc_ C1614) (o1 (eqf c1615) (oa (sc_ C1676) (o1 (eqf c1677) (oa (sc_ C1740) (o1 (eqf c1741) (oa (sc_ C1754) (o1 c1755 on))))))))))))) (by kernel_rfl)
            · replace h := (if_neg c1755).symm.trans h
              obtain ⟨t577, g1766, h⟩ := bindN h
              let C1766 := mkCon (slices_ContainsFunc_int_int_1.ok k a2 (fun x1757 => impl_PlanFault_4.f k x1757 t496) 102 (R 1 (eI .i64) 0 t496) (fun x1757 r h => impl_PlanFault_4.ok k x1757 t496 r h) impl_PlanFault_4.go t577 g1766) slices_ContainsFunc_int_int_1.go
              by_cases c1767 : t577 = true
              · replace h := (if_pos c1767).symm.trans h
                cases h
                exact byRet MX Tryz.func44 1000 [.call C1542, .call C1558, .b false, .call C1572, .b false, .call C1614, .b false, .call C1676, .b false, .call C1740, .b false, .call C1754, .b false, .call C1766, .b true, .fin] (oa (sc_ C1542) (oa (sc_ C1558) (o1 (bnf c1559) (oa (sc_ C1572) (o1 (eqf c1573) (oa (sc_ C1614) (o1 (eqf c1615) (oa (sc_ C1676) (o1 (eqf c1677) (oa (sc_ C1740) (o1 (eqf c1741) (oa (sc_ C1754) (o1 (eqf c1755) (oa (sc_ C1766) (o1 c1767 on))))))))))))))) (by kernel_rfl)
              · replace h := (if_neg c1767).symm.trans h
                obtain ⟨t587, g1790, h⟩ := bindN h
                let C1790 := mkCon (impl_MovesOf.ok k a3.f2 t587 g1790) impl_MovesOf.go
                by_cases c1791 : a3.f1 = t587
                · replace h := (if_pos c1791).symm.trans h
                  cases h
                  exact byRet MX Tryz.func44 1000 [.call C1542, .call C1558, .b false, .call C1572, .b false, .call C1614, .b false, .call C1676, .b false, .call C1740, .b false, .call C1754, .b false, .call C1766, .b false, .call C1790, .b false, .fin] (oa (sc_ C1542) (oa (sc_ C1558) (o1 (bnf c1559) (oa (sc_ C1572) (o1 (eqf c1573) (oa (sc_ C1614) (o1 (eqf c1615) (oa (sc_ C1676) (o1 (eqf c1677) (oa (sc_ C1740) (o1 (eqf c1741) (oa (sc_ C1754) (o1 (eqf c1755) (oa (sc_ C1766) (o1 (eqf c1767) (oa (sc_ C1790) (o1 (bnf (decide_eq_true c1791)) on))))))))))))))))) (by kernel_rfl)
                · replace h := (if_neg c1791).symm.trans h
                  cases h
                  exact byRet MX Tryz.func44 1000 [.call C1542, .call C1558, .b false, .call C1572, .b false, .call C1614, .b false, .call C1676, .b false, .call C1740, .b false, .call C1754, .b false, .call C1766, .b false, .call C1790, .b true, .fin] (oa (sc_ C1542) (oa (sc_ C1558) (o1 (bnf c1559) (oa (sc_ C1572) (o1 (eqf c1573) (oa (sc_ C1614) (o1 (eqf c1615) (oa (sc_ C1676) (o1 (eqf c1677) (oa (sc_ C1740) (o1 (eqf c1741) (oa (sc_ C1754) (o1 (eqf c1755) (oa (sc_ C1766) (o1 (eqf c1767) (oa (sc_ C1790) (o1 (bnt (decide_eq_false c1791)) on))))))))))))))))) (by kernel_rfl)
  · replace h := (if_neg c1559).symm.trans h
    cases h
    exact byRet MX Tryz.func44 1000 [.call C1542, .call C1558, .b true, .fin] (oa (sc_ C1542) (oa (sc_ C1558) (o1 (bnt (eqf c1559)) on))) (by kernel_rfl)

/-! ### impl_YardOk_1: function 48 -/
def impl_YardOk_1.f (a0 : S69) (a1 : S71) : Option Bool := some (decide (a0.f0 = a1.f0))
theorem impl_YardOk_1.go : Callable Tryz.prog 48 := ⟨_, Tryz.func48, by kernel_rfl, rfl⟩
theorem impl_YardOk_1.ok (a0 : S69) (a1 : S71) (r : Bool) (h : impl_YardOk_1.f a0 a1 = some r) : VCalls Tryz.prog 48 [.agg (e69 a0), .ptr [.sc (.int .i64 a1.f0), .sc (.int .i64 a1.f1), .sc (.int .i64 a1.f2), .sc (.bool a1.f3)]] [.c (.p (.sc (.bool r)))] := by
  unfold impl_YardOk_1.f at h
  refine VCalls.of (fn := Tryz.f48) (N := 9) Tryz.func48 rfl rfl (fun w0 => ?_)
  cases h
  exact byRet MX Tryz.func48 1000 [.fin] on (by kernel_rfl)

/-! ### slices_IndexFunc_impl_Job_impl_Job_4: function 108 -/
def slices_IndexFunc_impl_Job_impl_Job_4.h0T (a0 : List S69) (gi1 : FuncId) (u1_0_0 : V) (u1_0_1 : V) (u1_0_2 : V) (u1_0_3 : V) (v590 : Int) : List (Nat × AV) := [(0, .t (.c (.p false (R 3 e69 z69 a0)))), (1, .bfn gi1 [[u1_0_0, u1_0_1, u1_0_2, u1_0_3]]), (7, .t (.c (.p true (.sc (.int .i64 (a0.length : Int)))))), (8, .t (.c (.p true (.sc (.int .i64 v590)))))]
def slices_IndexFunc_impl_Job_impl_Job_4.h0H (a0 : List S69) (gi1 : FuncId) (u1_0_0 : V) (u1_0_1 : V) (u1_0_2 : V) (u1_0_3 : V) (v590 : Int) : List (Nat × Content) := []
def slices_IndexFunc_impl_Job_impl_Job_4.l0 : Nat → List S69 → (S69 → Option Bool) → Int → Option Int
  | 0, _, _, _ => none
  | kq + 1, a0, p1, v590 => if v590 < (a0.length : Int) then (if 0 ≤ v590 then ((p1 (rdD z69 a0 v590)).bind fun t591 => if t591 = true then (some v590) else (slices_IndexFunc_impl_Job_impl_Job_4.l0 kq a0 p1 (w64 (v590 + 1)))) else none) else (some (-1))
def slices_IndexFunc_impl_Job_impl_Job_4.f (k : Nat) (a0 : List S69) (p1 : S69 → Option Bool) : Option Int := slices_IndexFunc_impl_Job_impl_Job_4.l0 k a0 p1 0
theorem slices_IndexFunc_impl_Job_impl_Job_4.go : Callable Tryz.prog 108 := ⟨_, Tryz.func108, by kernel_rfl, rfl⟩
theorem slices_IndexFunc_impl_Job_impl_Job_4.ok (k : Nat) (a0 : List S69) (p1 : S69 → Option Bool) (gi1 : FuncId) (u1_0_0 u1_0_1 u1_0_2 u1_0_3 : V) (hp1 : ∀ x0 r, p1 x0 = some r → VCalls Tryz.prog gi1 [.agg (e69 x0), .ptr [u1_0_0, u1_0_1, u1_0_2, u1_0_3]] [.c (.p (.sc (.bool r)))]) (go1 : Callable Tryz.prog gi1) (r : Int) (h : slices_IndexFunc_impl_Job_impl_Job_4.f k a0 p1 = some r) : VCalls Tryz.prog 108 [.c (R 3 e69 z69 a0), .fn gi1 [[u1_0_0, u1_0_1, u1_0_2, u1_0_3]]] [.c (.p (.sc (.int .i64 r)))] := by
  unfold slices_IndexFunc_impl_Job_impl_Job_4.f at h
  refine VCalls.of (fn := Tryz.f108) (N := 19) Tryz.func108 rfl rfl (fun w0 => ?_)
  have H0 : ∀ (kq : Nat) (v590 : Int), slices_IndexFunc_impl_Job_impl_Job_4.l0 kq a0 p1 v590 = some r → AG Tryz.prog 108 19 [.c (.p (.sc (.int .i64 r)))] w0 (headStk (codeOf Tryz.f108) 0) (mkFS (slices_IndexFunc_impl_Job_impl_Job_4.h0T a0 gi1 u1_0_0 u1_0_1 u1_0_2 u1_0_3 v590) (slices_IndexFunc_impl_Job_impl_Job_4.h0H a0 gi1 u1_0_0 u1_0_1 u1_0_2 u1_0_3 v590)) := by
    intro kq
    induction kq with
    | zero => intro v590 h; cases h
    | succ kq ih =>
      intro v590 h
      rw [slices_IndexFunc_impl_Job_impl_Job_4.l0] at h
      by_cases c1799 : v590 < (a0.length : Int)
      · replace h := (if_pos c1799).symm.trans h
        obtain ⟨c1800, h⟩ := ifN h
        obtain ⟨t591, g1801, h⟩ := bindN h
        let C1801 := mkCon (hp1 (rdD z69 a0 v590) t591 g1801) go1
        by_cases c1802 : t591 = true
        · replace h := (if_pos c1802).symm.trans h
          cases h
          exact byRet MX Tryz.func108 1000 [.b true, .call C1801, .b true, .fin] (o1 (decide_eq_true c1799) (o1 c1800 (o1 c1799 (oa (sc_ C1801) (o1 c1802 on))))) (by kernel_rfl)
        · replace h := (if_neg c1802).symm.trans h
          exact byHead MX Tryz.func108 1000 [.b true, .call C1801, .b false, .fin] (o1 (decide_eq_true c1799) (o1 c1800 (o1 c1799 (oa (sc_ C1801) (o1 (eqf c1802) on))))) (ih (w64 (v590 + 1)) h) (by kernel_rfl)
      · replace h := (if_neg c1799).symm.trans h
        cases h
        exact byRet MX Tryz.func108 1000 [.b false, .fin, .fin] (o1 (decide_eq_false c1799) on) (by kernel_rfl)
  exact byHead MX Tryz.func108 1000 [.fin] on (H0 k 0 h) (by kernel_rfl)

/-! ### slices_ContainsFunc_impl_Job_impl_Job_4: function 47 -/
def slices_ContainsFunc_impl_Job_impl_Job_4.f (k : Nat) (a0 : List S69) (p1 : S69 → Option Bool) : Option Bool := (slices_IndexFunc_impl_Job_impl_Job_4.f k a0 p1).bind fun t592 => some (decide (0 ≤ t592))
theorem slices_ContainsFunc_impl_Job_impl_Job_4.go : Callable Tryz.prog 47 := ⟨_, Tryz.func47, by kernel_rfl, rfl⟩
theorem slices_ContainsFunc_impl_Job_impl_Job_4.ok (k : Nat) (a0 : List S69) (p1 : S69 → Option Bool) (gi1 : FuncId) (u1_0_0 u1_0_1 u1_0_2 u1_0_3 : V) (hp1 : ∀ x0 r, p1 x0 = some r → VCalls Tryz.prog gi1 [.agg (e69 x0), .ptr [u1_0_0, u1_0_1, u1_0_2, u1_0_3]] [.c (.p (.sc (.bool r)))]) (go1 : Callable Tryz.prog gi1) (r : Bool) (h : slices_ContainsFunc_impl_Job_impl_Job_4.f k a0 p1 = some r) : VCalls Tryz.prog 47 [.c (R 3 e69 z69 a0), .fn gi1 [[u1_0_0, u1_0_1, u1_0_2, u1_0_3]]] [.c (.p (.sc (.bool r)))] := by
  unfold slices_ContainsFunc_impl_Job_impl_Job_4.f at h
  refine VCalls.of (fn := Tryz.f47) (N := 9) Tryz.func47 rfl rfl (fun w0 => ?_)
  obtain ⟨t592, g1803, h⟩ := bindN h
  let C1803 := mkCon (slices_IndexFunc_impl_Job_impl_Job_4.ok k a0 p1 gi1 u1_0_0 u1_0_1 u1_0_2 u1_0_3 hp1 go1 t592 g1803) slices_IndexFunc_impl_Job_impl_Job_4.go
  cases h
  exact byRet MX Tryz.func47 1000 [.call C1803, .fin] (oa (sc_ C1803) on) (by kernel_rfl)

/-! ### impl_YardOk_2: function 51 -/
def impl_YardOk_2.f (k : Nat) (a0 : Int) (a1 : List Int) : Option Bool := (slices_Contains_int_int.f k a1 a0).bind fun t597 => some t597
theorem impl_YardOk_2.go : Callable Tryz.prog 51 := ⟨_, Tryz.func51, by kernel_rfl, rfl⟩
theorem impl_YardOk_2.ok (k : Nat) (a0 : Int) (a1 : List Int) (r : Bool) (h : impl_YardOk_2.f k a0 a1 = some r) : VCalls Tryz.prog 51 [.c (.sc (.int .i64 a0)), .ptr [R 1 (eI .i64) 0 a1]] [.c (.p (.sc (.bool r)))] := by
  unfold impl_YardOk_2.f at h
  refine VCalls.of (fn := Tryz.f51) (N := 7) Tryz.func51 rfl rfl (fun w0 => ?_)
  obtain ⟨t597, g1812, h⟩ := bindN h
  let C1812 := mkCon (slices_Contains_int_int.ok k a1 a0 t597 g1812) slices_Contains_int_int.go
  cases h
  exact byRet MX Tryz.func51 1000 [.call C1812, .fin] (oa (sc_ C1812) on) (by kernel_rfl)

/-! ### impl_YardOk: function 9 -/
def impl_YardOk.h0T (a0 : S48) (v594 : Int) (t471 : List Int) : List (Nat × AV) := [(1, .ptr 64 0), (4, .ptr 256 0), (90, .t (.c (.p false (R 4 e71 z71 a0.f1)))), (91, .t (.c (.p true (.sc (.int .i64 (a0.f1.length : Int)))))), (92, .t (.c (.p true (.sc (.int .i64 v594)))))]
def impl_YardOk.h0H (a0 : S48) (v594 : Int) (t471 : List Int) : List (Nat × Content) := [(64, .box 48 [.p false (.sc (.int .i64 a0.f0.f0.f0)), .p false (.sc (.int .i64 a0.f0.f0.f1)), .p false (.sc (.string a0.f0.f0.f2)), .p false (.sc (.int .i64 a0.f0.f1)), .p false (.sc (.int .i64 a0.f0.f2)), .p false (.sc (.int .i64 a0.f0.f3)), .p false (.sc (.int .i64 a0.f0.f4)), .p false (R 4 e71 z71 a0.f1), .p false (.sc (.int .i64 a0.f2.f0)), .p false (.sc (.int .i64 a0.f2.f1)), .p false (R 1 (eI .i64) 0 a0.f2.f2), .p false (.sc (.int .i64 a0.f3)), .p false (.sc (.bool a0.f4)), .p false (.sc (.int .i64 a0.f5.f0)), .p false (.sc (.int .i64 a0.f5.f1)), .p false (R 1 e65 z65 a0.f5.f2), .p false (R 3 e69 z69 a0.f6), .p false (R 1 (eI .i64) 0 a0.f7)]), (256, .box 27 [.h 4736]), (4736, .row 3 1 t471.length (fun j => (eI .i64) (t471.getD j 0)) true)]
def impl_YardOk.l0 : Nat → S48 → List Int → Int → Option Bool
  | 0, _, _, _ => none
  | kq + 1, a0, t471, v594 => if v594 < (a0.f1.length : Int) then (if 0 ≤ v594 then ((slices_ContainsFunc_impl_Job_impl_Job_4.f kq a0.f6 (fun x1808 => impl_YardOk_1.f x1808 (rdD z71 a0.f1 v594))).bind fun t595 => if t595 = true then (impl_YardOk.l0 kq a0 t471 (w64 (v594 + 1))) else ((impl_heldBy.f (rdD z71 a0.f1 v594)).bind fun t596 => (slices_ContainsFunc_int_int_1.f kq t596 (fun x1813 => impl_YardOk_2.f kq x1813 t471)).bind fun t598 => if t598 = true then (some false) else (impl_YardOk.l0 kq a0 t471 (w64 (v594 + 1))))) else none) else (some true)
def impl_YardOk.f (k : Nat) (a0 : S48) : Option Bool := (impl_SetupOk.f k a0.f0).bind fun t310 => if t310 = true then ((impl_RobotsOk.f k a0.f0.f0 a0.f1).bind fun t415 => if t415 = true then ((impl_WindowOk.f k a0.f2).bind fun t421 => if t421 = true then (if a0.f2.f0 = a0.f0.f2 then (if a0.f2.f1 = a0.f0.f3 then (if a0.f3 < 0 then (some false) else (if 1000000000 < a0.f3 then (some false) else ((impl_JobsOk.f k a0).bind fun t459 => if t459 = true then ((impl_areFree.f k a0.f0.f0 a0.f7).bind fun t463 => if t463 = true then ((impl_isAscending.f k a0.f7).bind fun t465 => if t465 = true then (if a0.f4 = true then ((impl_Footprint.f k a0).bind fun t471 => (impl_onlyCells.f k a0.f0.f0 t471).bind fun t487 => (impl_firstCells.f k a0.f5.f2).bind fun t491 => (impl_PlanFault.f k t487 t491 a0.f7 a0.f5).bind fun t588 => if t588 = 0 then (impl_YardOk.l0 k a0 t471 0) else (some false)) else (some true)) else (some false)) else (some false)) else (some false)))) else (some false)) else (some false)) else (some false)) else (some false)) else (some false)
theorem impl_YardOk.go : Callable Tryz.prog 9 := ⟨_, Tryz.func9, by kernel_rfl, rfl⟩
theorem impl_YardOk.ok (k : Nat) (a0 : S48) (r : Bool) (h : impl_YardOk.f k a0 = some r) : VCalls Tryz.prog 9 [.agg (e48 a0)] [.c (.p (.sc (.bool r)))] := by
  unfold impl_YardOk.f at h
  refine VCalls.of (fn := Tryz.f9) (N := 109) Tryz.func9 rfl rfl (fun w0 => ?_)
  obtain ⟨t310, g973, h⟩ := bindN h
  let C973 := mkCon (impl_SetupOk.ok k a0.f0 t310 g973) impl_SetupOk.go
  by_cases c974 : t310 = true
  · replace h := (if_pos c974).symm.trans h
    obtain ⟨t415, g1314, h⟩ := bindN h
    let C1314 := mkCon (impl_RobotsOk.ok k a0.f0.f0 a0.f1 t415 g1314) impl_RobotsOk.go
    by_cases c1315 : t415 = true
    · replace h := (if_pos c1315).symm.trans h
      obtain ⟨t421, g1332, h⟩ := bindN h
      let C1332 := mkCon (impl_WindowOk.ok k a0.f2 t421 g1332) impl_WindowOk.go
      by_cases c1333 : t421 = true
      · replace h := (if_pos c1333).symm.trans h
        by_cases c1334 : a0.f2.f0 = a0.f0.f2
        · replace h := (if_pos c1334).symm.trans h
          by_cases c1335 : a0.f2.f1 = a0.f0.f3
          · replace h := (if_pos c1335).symm.trans h
            by_cases c1336 : a0.f3 < 0
            · replace h := (if_pos c1336).symm.trans h
              cases h
              exact byRet MX Tryz.func9 1000 [.call C973, .dec 13 false, .call C1314, .dec 21 false, .call C1332, .dec 27 false, .dec 35 false, .b false, .dec 46 true, .b true, .fin] (oa (sc_ C973) (o1 (bnf c974) (oa (sc_ C1314) (o1 (bnf c1315) (oa (sc_ C1332) (o1 (bnf c1333) (o1 (bnf (decide_eq_true c1334)) (o1 (bnf (decide_eq_true c1335)) (o1 (decide_eq_true c1336) (o1 (rfl : true = true) on)))))))))) (by kernel_rfl)
            · replace h := (if_neg c1336).symm.trans h
              by_cases c1337 : 1000000000 < a0.f3
              · replace h := (if_pos c1337).symm.trans h
                cases h
                exact byRet MX Tryz.func9 1000 [.call C973, .dec 13 false, .call C1314, .dec 21 false, .call C1332, .dec 27 false, .dec 35 false, .b false, .dec 46 false, .dec 51 true, .b true, .fin] (oa (sc_ C973) (o1 (bnf c974) (oa (sc_ C1314) (o1 (bnf c1315) (oa (sc_ C1332) (o1 (bnf c1333) (o1 (bnf (decide_eq_true c1334)) (o1 (bnf (decide_eq_true c1335)) (o1 (decide_eq_false c1336) (o1 (decide_eq_true c1337) (o1 (rfl : true = true) on))))))))))) (by kernel_rfl)
              · replace h := (if_neg c1337).symm.trans h
                obtain ⟨t459, g1434, h⟩ := bindN h
                let C1434 := mkCon (impl_JobsOk.ok k a0 t459 g1434) impl_JobsOk.go
                by_cases c1435 : t459 = true
                · replace h := (if_pos c1435).symm.trans h
                  obtain ⟨t463, g1441, h⟩ := bindN h
                  let C1441 := mkCon (impl_areFree.ok k a0.f0.f0 a0.f7 t463 g1441) impl_areFree.go
                  by_cases c1442 : t463 = true
                  · replace h := (if_pos c1442).symm.trans h
                    obtain ⟨t465, g1452, h⟩ := bindN h
                    let C1452 := mkCon (impl_isAscending.ok k a0.f7 t465 g1452) impl_isAscending.go
                    by_cases c1453 : t465 = true
                    · replace h := (if_pos c1453).symm.trans h
                      by_cases c1454 : a0.f4 = true
                      · replace h := (if_pos c1454).symm.trans h
                        obtain ⟨t471, g1468, h⟩ := bindN h
                        let C1468 := mkCon (impl_Footprint.ok k a0 t471 g1468) impl_Footprint.go
                        obtain ⟨t487, g1503, h⟩ := bindN h
                        let C1503 := mkCon (impl_onlyCells.ok k a0.f0.f0 t471 t487 g1503) impl_onlyCells.go
                        obtain ⟨t491, g1518, h⟩ := bindN h
                        let C1518 := mkCon (impl_firstCells.ok k a0.f5.f2 t491 g1518) impl_firstCells.go
                        obtain ⟨t588, g1792, h⟩ := bindN h
                        let C1792 := mkCon (impl_PlanFault.ok k t487 t491 a0.f7 a0.f5 t588 g1792) impl_PlanFault.go
                        by_cases c1793 : t588 = 0
                        · replace h := (if_pos c1793).symm.trans h
                          have H0 : ∀ (kq : Nat) (v594 : Int), impl_YardOk.l0 kq a0 t471 v594 = some r → AG Tryz.prog 9 109 [.c (.p (.sc (.bool r)))] w0 (headStk (codeOf Tryz.f9) 0) (mkFS (impl_YardOk.h0T a0 v594 t471) (impl_YardOk.h0H a0 v594 t471)) := by
                            intro kq
                            induction kq with
                            | zero => intro v594 h; cases h
                            | succ kq ih =>
                              intro v594 h
                              rw [impl_YardOk.l0] at h
                              by_cases c1806 : v594 < (a0.f1.length : Int)
                              · replace h := (if_pos c1806).symm.trans h
                                obtain ⟨c1807, h⟩ := ifN h
                                obtain ⟨t595, g1809, h⟩ := bindN h
                                let C1809 := mkCon (slices_ContainsFunc_impl_Job_impl_Job_4.ok kq a0.f6 (fun x1808 => impl_YardOk_1.f x1808 (rdD z71 a0.f1 v594)) 48 (.sc (.int .i64 ((rdD z71 a0.f1 v594).f0))) (.sc (.int .i64 ((rdD z71 a0.f1 v594).f1))) (.sc (.int .i64 ((rdD z71 a0.f1 v594).f2))) (.sc (.bool ((rdD z71 a0.f1 v594).f3))) (fun x1808 r h => impl_YardOk_1.ok x1808 (rdD z71 a0.f1 v594) r h) impl_YardOk_1.go t595 g1809) slices_ContainsFunc_impl_Job_impl_Job_4.go
                                by_cases c1810 : t595 = true
                                · replace h := (if_pos c1810).symm.trans h
                                  exact byHead MX Tryz.func9 1000 [.b true, .call C1809, .dec 102 false, .b false, .fin] (o1 (decide_eq_true c1806) (o1 c1807 (o1 c1806 (oa (sc_ C1809) (o1 (bnf c1810) (o1 (rfl : false = false) on)))))) (ih (w64 (v594 + 1)) h) (by kernel_rfl)
                                · replace h := (if_neg c1810).symm.trans h
                                  obtain ⟨t596, g1811, h⟩ := bindN h
                                  let C1811 := mkCon (impl_heldBy.ok (rdD z71 a0.f1 v594) t596 g1811) impl_heldBy.go
                                  obtain ⟨t598, g1814, h⟩ := bindN h
                                  let C1814 := mkCon (slices_ContainsFunc_int_int_1.ok kq t596 (fun x1813 => impl_YardOk_2.f kq x1813 t471) 51 (R 1 (eI .i64) 0 t471) (fun x1813 r h => impl_YardOk_2.ok kq x1813 t471 r h) impl_YardOk_2.go t598 g1814) slices_ContainsFunc_int_int_1.go
                                  by_cases c1815 : t598 = true
                                  · replace h := (if_pos c1815).symm.trans h
                                    cases h
                                    exact byRet MX Tryz.func9 1000 [.b true, .call C1809, .dec 102 true, .call C1811, .call C1814, .b true, .fin] (o1 (decide_eq_true c1806) (o1 c1807 (o1 c1806 (oa (sc_ C1809) (o1 (bnt (eqf c1810)) (oa (sc_ C1811) (oa (sc_ C1814) (o1 c1815 on)))))))) (by kernel_rfl)
                                  · replace h := (if_neg c1815).symm.trans h
                                    exact byHead MX Tryz.func9 1000 [.b true, .call C1809, .dec 102 true, .call C1811, .call C1814, .b false, .fin] (o1 (decide_eq_true c1806) (o1 c1807 (o1 c1806 (oa (sc_ C1809) (o1 (bnt (eqf c1810)) (oa (sc_ C1811) (oa (sc_ C1814) (o1 (eqf c1815) on)))))))) (ih (w64 (v594 + 1)) h) (by kernel_rfl)
                              · replace h := (if_neg c1806).symm.trans h
                                cases h
                                exact byRet MX Tryz.func9 1000 [.b false, .fin, .fin] (o1 (decide_eq_false c1806) on) (by kernel_rfl)
                          exact byHead MX Tryz.func9 1000 [.call C973, .dec 13 false, .call C1314, .dec 21 false, .call C1332, .dec 27 false, .dec 35 false, .b false, .dec 46 false, .dec 51 false, .call C1434, .dec 56 false, .call C1441, .dec 64 false, .call C1452, .b false, .b false, .call C1468, .call C1503, .call C1518, .call C1792, .b false, .fin] (oa (sc_ C973) (o1 (bnf c974) (oa (sc_ C1314) (o1 (bnf c1315) (oa (sc_ C1332) (o1 (bnf c1333) (o1 (bnf (decide_eq_true c1334)) (o1 (bnf (decide_eq_true c1335)) (o1 (decide_eq_false c1336) (o1 (decide_eq_false c1337) (oa (sc_ C1434) (o1 (bnf c1435) (oa (sc_ C1441) (o1 (bnf c1442) (oa (sc_ C1452) (o1 (bnf c1453) (o1 (bnf c1454) (oa (sc_ C1468) (oa (sc_ C1503) (oa (sc_ C1518) (oa (sc_ C1792) (o1 (bnf (decide_eq_true c1793)) on)))))))))))))))))))))) (H0 k 0 h) (by kernel_rfl)
                        · replace h := (if_neg c1793).symm.trans h
                          cases h
                          exact byRet MX Tryz.func9 1000 [.call C973, .dec 13 false, .call C1314, .dec 21 false, .call C1332, .dec 27 false, .dec 35 false, .b false, .dec 46 false, .dec 51 false, .call C1434, .dec 56 false, .call C1441, .dec 64 false, .call C1452, .b false, .b false, .call C1468, .call C1503, .call C1518, .call C1792, .b true, .fin] (oa (sc_ C973) (o1 (bnf c974) (oa (sc_ C1314) (o1 (bnf c1315) (oa (sc_ C1332) (o1 (bnf c1333) (o1 (bnf (decide_eq_true c1334)) (o1 (bnf (decide_eq_true c1335)) (o1 (decide_eq_false c1336) (o1 (decide_eq_false c1337) (oa (sc_ C1434) (o1 (bnf c1435) (oa (sc_ C1441) (o1 (bnf c1442) (oa (sc_ C1452) (o1 (bnf c1453) (o1 (bnf c1454) (oa (sc_ C1468) (oa (sc_ C1503) (oa (sc_ C1518) (oa (sc_ C1792) (o1 (bnt (decide_eq_false c1793)) on)))))))))))))))))))))) (by kernel_rfl)
                      · replace h := (if_neg c1454).symm.trans h
                        cases h
                        exact byRet MX Tryz.func9 1000 [.call C973, .dec 13 false, .call C1314, .dec 21 false, .call C1332, .dec 27 false, .dec 35 false, .b false, .dec 46 false, .dec 51 false, .call C1434, .dec 56 false, .call C1441, .dec 64 false, .call C1452, .b false, .b true, .fin] (oa (sc_ C973) (o1 (bnf c974) (oa (sc_ C1314) (o1 (bnf c1315) (oa (sc_ C1332) (o1 (bnf c1333) (o1 (bnf (decide_eq_true c1334)) (o1 (bnf (decide_eq_true c1335)) (o1 (decide_eq_false c1336) (o1 (decide_eq_false c1337) (oa (sc_ C1434) (o1 (bnf c1435) (oa (sc_ C1441) (o1 (bnf c1442) (oa (sc_ C1452) (o1 (bnf c1453) (o1 (bnt (eqf c1454)) on))))))))))))))))) (by kernel_rfl)
                    · replace h := (if_neg c1453).symm.trans h
                      cases h
                      exact byRet MX Tryz.func9 1000 [.call C973, .dec 13 false, .call C1314, .dec 21 false, .call C1332, .dec 27 false, .dec 35 false, .b false, .dec 46 false, .dec 51 false, .call C1434, .dec 56 false, .call C1441, .dec 64 false, .call C1452, .b true, .fin] (oa (sc_ C973) (o1 (bnf c974) (oa (sc_ C1314) (o1 (bnf c1315) (oa (sc_ C1332) (o1 (bnf c1333) (o1 (bnf (decide_eq_true c1334)) (o1 (bnf (decide_eq_true c1335)) (o1 (decide_eq_false c1336) (o1 (decide_eq_false c1337) (oa (sc_ C1434) (o1 (bnf c1435) (oa (sc_ C1441) (o1 (bnf c1442) (oa (sc_ C1452) (o1 (bnt (eqf c1453)) on)))))))))))))))) (by kernel_rfl)
                  · replace h := (if_neg c1442).symm.trans h
                    cases h
                    exact byRet MX Tryz.func9 1000 [.call C973, .dec 13 false, .call C1314, .dec 21 false, .call C1332, .dec 27 false, .dec 35 false, .b false, .dec 46 false, .dec 51 false, .call C1434, .dec 56 false, .call C1441, .dec 64 true, .b true, .fin] (oa (sc_ C973) (o1 (bnf c974) (oa (sc_ C1314) (o1 (bnf c1315) (oa (sc_ C1332) (o1 (bnf c1333) (o1 (bnf (decide_eq_true c1334)) (o1 (bnf (decide_eq_true c1335)) (o1 (decide_eq_false c1336) (o1 (decide_eq_false c1337) (oa (sc_ C1434) (o1 (bnf c1435) (oa (sc_ C1441) (o1 (bnt (eqf c1442)) (o1 (rfl : true = true) on))))))))))))))) (by kernel_rfl)
                · replace h := (if_neg c1435).symm.trans h
                  cases h
                  exact byRet MX Tryz.func9 1000 [.call C973, .dec 13 false, .call C1314, .dec 21 false, .call C1332, .dec 27 false, .dec 35 false, .b false, .dec 46 false, .dec 51 false, .call C1434, .dec 56 true, .b true, .fin] (oa (sc_ C973) (o1 (bnf c974) (oa (sc_ C1314) (o1 (bnf c1315) (oa (sc_ C1332) (o1 (bnf c1333) (o1 (bnf (decide_eq_true c1334)) (o1 (bnf (decide_eq_true c1335)) (o1 (decide_eq_false c1336) (o1 (decide_eq_false c1337) (oa (sc_ C1434) (o1 (bnt (eqf c1435)) (o1 (rfl : true = true) on))))))))))))) (by kernel_rfl)
          · replace h := (if_neg c1335).symm.trans h
            cases h
            exact byRet MX Tryz.func9 1000 [.call C973, .dec 13 false, .call C1314, .dec 21 false, .call C1332, .dec 27 false, .dec 35 false, .b true, .fin] (oa (sc_ C973) (o1 (bnf c974) (oa (sc_ C1314) (o1 (bnf c1315) (oa (sc_ C1332) (o1 (bnf c1333) (o1 (bnf (decide_eq_true c1334)) (o1 (bnt (decide_eq_false c1335)) on)))))))) (by kernel_rfl)
        · replace h := (if_neg c1334).symm.trans h
          cases h
          exact byRet MX Tryz.func9 1000 [.call C973, .dec 13 false, .call C1314, .dec 21 false, .call C1332, .dec 27 false, .dec 35 true, .b true, .fin] (oa (sc_ C973) (o1 (bnf c974) (oa (sc_ C1314) (o1 (bnf c1315) (oa (sc_ C1332) (o1 (bnf c1333) (o1 (bnt (decide_eq_false c1334)) (o1 (rfl : true = true) on)))))))) (by kernel_rfl)
      · replace h := (if_neg c1333).symm.trans h
        cases h
        exact byRet MX Tryz.func9 1000 [.call C973, .dec 13 false, .call C1314, .dec 21 false, .call C1332, .dec 27 true, .b true, .fin] (oa (sc_ C973) (o1 (bnf c974) (oa (sc_ C1314) (o1 (bnf c1315) (oa (sc_ C1332) (o1 (bnt (eqf c1333)) (o1 (rfl : true = true) on))))))) (by kernel_rfl)
    · replace h := (if_neg c1315).symm.trans h
      cases h
      exact byRet MX Tryz.func9 1000 [.call C973, .dec 13 false, .call C1314, .dec 21 true, .b true, .fin] (oa (sc_ C973) (o1 (bnf c974) (oa (sc_ C1314) (o1 (bnt (eqf c1315)) (o1 (rfl : true = true) on))))) (by kernel_rfl)
  · replace h := (if_neg c974).symm.trans h
    cases h
    exact byRet MX Tryz.func9 1000 [.call C973, .dec 13 true, .b true, .fin] (oa (sc_ C973) (o1 (bnt (eqf c974)) (o1 (rfl : true = true) on))) (by kernel_rfl)

/-! ### laws_eqGrid: function 111 -/
def laws_eqGrid.f (a0 : S38) (a1 : S38) : Option Bool := if a0.f0 = a1.f0 then (if a0.f1 = a1.f1 then (if (a0.f2.toList == a1.f2.toList) = true then (some true) else (some false)) else (some false)) else (some false)
theorem laws_eqGrid.go : Callable Tryz.prog 111 := ⟨_, Tryz.func111, by kernel_rfl, rfl⟩
theorem laws_eqGrid.ok (a0 : S38) (a1 : S38) (r : Bool) (h : laws_eqGrid.f a0 a1 = some r) : VCalls Tryz.prog 111 [.agg (e38 a0), .agg (e38 a1)] [.c (.p (.sc (.bool r)))] := by
  unfold laws_eqGrid.f at h
  refine VCalls.of (fn := Tryz.f111) (N := 20) Tryz.func111 rfl rfl (fun w0 => ?_)
  by_cases c1819 : a0.f0 = a1.f0
  · replace h := (if_pos c1819).symm.trans h
    by_cases c1820 : a0.f1 = a1.f1
    · replace h := (if_pos c1820).symm.trans h
      by_cases c1821 : (a0.f2.toList == a1.f2.toList) = true
      · replace h := (if_pos c1821).symm.trans h
        cases h
        exact byRet MX Tryz.func111 1000 [.b false, .b false, .b false, .fin] (o1 (bnf (decide_eq_true c1819)) (o1 (bnf (decide_eq_true c1820)) (o1 (bnf c1821) on))) (by kernel_rfl)
      · replace h := (if_neg c1821).symm.trans h
        cases h
        exact byRet MX Tryz.func111 1000 [.b false, .b false, .b true, .fin] (o1 (bnf (decide_eq_true c1819)) (o1 (bnf (decide_eq_true c1820)) (o1 (bnt (eqf c1821)) on))) (by kernel_rfl)
    · replace h := (if_neg c1820).symm.trans h
      cases h
      exact byRet MX Tryz.func111 1000 [.b false, .b true, .fin] (o1 (bnf (decide_eq_true c1819)) (o1 (bnt (decide_eq_false c1820)) on)) (by kernel_rfl)
  · replace h := (if_neg c1819).symm.trans h
    cases h
    exact byRet MX Tryz.func111 1000 [.b true, .fin] (o1 (bnt (decide_eq_false c1819)) on) (by kernel_rfl)

/-! ### laws_eqSetup: function 53 -/
def laws_eqSetup.f (a0 : S40) (a1 : S40) : Option Bool := (laws_eqGrid.f a0.f0 a1.f0).bind fun t601 => if t601 = true then (if a0.f1 = a1.f1 then (if a0.f2 = a1.f2 then (if a0.f3 = a1.f3 then (if a0.f4 = a1.f4 then (some true) else (some false)) else (some false)) else (some false)) else (some false)) else (some false)
theorem laws_eqSetup.go : Callable Tryz.prog 53 := ⟨_, Tryz.func53, by kernel_rfl, rfl⟩
theorem laws_eqSetup.ok (a0 : S40) (a1 : S40) (r : Bool) (h : laws_eqSetup.f a0 a1 = some r) : VCalls Tryz.prog 53 [.agg (e40 a0), .agg (e40 a1)] [.c (.p (.sc (.bool r)))] := by
  unfold laws_eqSetup.f at h
  refine VCalls.of (fn := Tryz.f53) (N := 31) Tryz.func53 rfl rfl (fun w0 => ?_)
  obtain ⟨t601, g1822, h⟩ := bindN h
  let C1822 := mkCon (laws_eqGrid.ok a0.f0 a1.f0 t601 g1822) laws_eqGrid.go
  by_cases c1823 : t601 = true
  · replace h := (if_pos c1823).symm.trans h
    by_cases c1824 : a0.f1 = a1.f1
    · replace h := (if_pos c1824).symm.trans h
      by_cases c1825 : a0.f2 = a1.f2
      · replace h := (if_pos c1825).symm.trans h
        by_cases c1826 : a0.f3 = a1.f3
        · replace h := (if_pos c1826).symm.trans h
          by_cases c1827 : a0.f4 = a1.f4
          · replace h := (if_pos c1827).symm.trans h
            cases h
            exact byRet MX Tryz.func53 1000 [.call C1822, .b false, .b false, .b false, .b false, .b false, .fin] (oa (sc_ C1822) (o1 (bnf c1823) (o1 (bnf (decide_eq_true c1824)) (o1 (bnf (decide_eq_true c1825)) (o1 (bnf (decide_eq_true c1826)) (o1 (bnf (decide_eq_true c1827)) on)))))) (by kernel_rfl)
          · replace h := (if_neg c1827).symm.trans h
            cases h
            exact byRet MX Tryz.func53 1000 [.call C1822, .b false, .b false, .b false, .b false, .b true, .fin] (oa (sc_ C1822) (o1 (bnf c1823) (o1 (bnf (decide_eq_true c1824)) (o1 (bnf (decide_eq_true c1825)) (o1 (bnf (decide_eq_true c1826)) (o1 (bnt (decide_eq_false c1827)) on)))))) (by kernel_rfl)
        · replace h := (if_neg c1826).symm.trans h
          cases h
          exact byRet MX Tryz.func53 1000 [.call C1822, .b false, .b false, .b false, .b true, .fin] (oa (sc_ C1822) (o1 (bnf c1823) (o1 (bnf (decide_eq_true c1824)) (o1 (bnf (decide_eq_true c1825)) (o1 (bnt (decide_eq_false c1826)) on))))) (by kernel_rfl)
      · replace h := (if_neg c1825).symm.trans h
        cases h
        exact byRet MX Tryz.func53 1000 [.call C1822, .b false, .b false, .b true, .fin] (oa (sc_ C1822) (o1 (bnf c1823) (o1 (bnf (decide_eq_true c1824)) (o1 (bnt (decide_eq_false c1825)) on)))) (by kernel_rfl)
    · replace h := (if_neg c1824).symm.trans h
      cases h
      exact byRet MX Tryz.func53 1000 [.call C1822, .b false, .b true, .fin] (oa (sc_ C1822) (o1 (bnf c1823) (o1 (bnt (decide_eq_false c1824)) on))) (by kernel_rfl)
  · replace h := (if_neg c1823).symm.trans h
    cases h
    exact byRet MX Tryz.func53 1000 [.call C1822, .b true, .fin] (oa (sc_ C1822) (o1 (bnt (eqf c1823)) on)) (by kernel_rfl)

/-! ### laws_eqRobot: function 112 -/
def laws_eqRobot.f (a0 : S71) (a1 : S71) : Option Bool := if a0.f0 = a1.f0 then (if a0.f1 = a1.f1 then (if a0.f2 = a1.f2 then (if (a0.f3 == a1.f3) = true then (some true) else (some false)) else (some false)) else (some false)) else (some false)
theorem laws_eqRobot.go : Callable Tryz.prog 112 := ⟨_, Tryz.func112, by kernel_rfl, rfl⟩
theorem laws_eqRobot.ok (a0 : S71) (a1 : S71) (r : Bool) (h : laws_eqRobot.f a0 a1 = some r) : VCalls Tryz.prog 112 [.agg (e71 a0), .agg (e71 a1)] [.c (.p (.sc (.bool r)))] := by
  unfold laws_eqRobot.f at h
  refine VCalls.of (fn := Tryz.f112) (N := 25) Tryz.func112 rfl rfl (fun w0 => ?_)
  by_cases c1833 : a0.f0 = a1.f0
  · replace h := (if_pos c1833).symm.trans h
    by_cases c1834 : a0.f1 = a1.f1
    · replace h := (if_pos c1834).symm.trans h
      by_cases c1835 : a0.f2 = a1.f2
      · replace h := (if_pos c1835).symm.trans h
        by_cases c1836 : (a0.f3 == a1.f3) = true
        · replace h := (if_pos c1836).symm.trans h
          cases h
          exact byRet MX Tryz.func112 1000 [.b false, .b false, .b false, .b false, .fin] (o1 (bnf (decide_eq_true c1833)) (o1 (bnf (decide_eq_true c1834)) (o1 (bnf (decide_eq_true c1835)) (o1 (bnf c1836) on)))) (by kernel_rfl)
        · replace h := (if_neg c1836).symm.trans h
          cases h
          exact byRet MX Tryz.func112 1000 [.b false, .b false, .b false, .b true, .fin] (o1 (bnf (decide_eq_true c1833)) (o1 (bnf (decide_eq_true c1834)) (o1 (bnf (decide_eq_true c1835)) (o1 (bnt (eqf c1836)) on)))) (by kernel_rfl)
      · replace h := (if_neg c1835).symm.trans h
        cases h
        exact byRet MX Tryz.func112 1000 [.b false, .b false, .b true, .fin] (o1 (bnf (decide_eq_true c1833)) (o1 (bnf (decide_eq_true c1834)) (o1 (bnt (decide_eq_false c1835)) on))) (by kernel_rfl)
    · replace h := (if_neg c1834).symm.trans h
      cases h
      exact byRet MX Tryz.func112 1000 [.b false, .b true, .fin] (o1 (bnf (decide_eq_true c1833)) (o1 (bnt (decide_eq_false c1834)) on)) (by kernel_rfl)
  · replace h := (if_neg c1833).symm.trans h
    cases h
    exact byRet MX Tryz.func112 1000 [.b true, .fin] (o1 (bnt (decide_eq_false c1833)) on) (by kernel_rfl)

/-! ### laws_eqRobotS: function 54 -/
def laws_eqRobotS.h0T (a0 : List S71) (a1 : List S71) (v604 : Int) : List (Nat × AV) := [(0, .t (.c (.p false (R 4 e71 z71 a0)))), (1, .t (.c (.p false (R 4 e71 z71 a1)))), (5, .t (.c (.p true (.sc (.int .i64 v604)))))]
def laws_eqRobotS.h0H (a0 : List S71) (a1 : List S71) (v604 : Int) : List (Nat × Content) := []
def laws_eqRobotS.l0 : Nat → List S71 → List S71 → Int → Option Bool
  | 0, _, _, _ => none
  | kq + 1, a0, a1, v604 => if v604 < (a0.length : Int) then (if 0 ≤ v604 then (if v604 < (a1.length : Int) then ((laws_eqRobot.f (rdD z71 a0 v604) (rdD z71 a1 v604)).bind fun t605 => if t605 = true then (laws_eqRobotS.l0 kq a0 a1 (w64 (v604 + 1))) else (some false)) else none) else none) else (some true)
def laws_eqRobotS.f (k : Nat) (a0 : List S71) (a1 : List S71) : Option Bool := if (a0.length : Int) = (a1.length : Int) then (laws_eqRobotS.l0 k a0 a1 0) else (some false)
theorem laws_eqRobotS.go : Callable Tryz.prog 54 := ⟨_, Tryz.func54, by kernel_rfl, rfl⟩
theorem laws_eqRobotS.ok (k : Nat) (a0 : List S71) (a1 : List S71) (r : Bool) (h : laws_eqRobotS.f k a0 a1 = some r) : VCalls Tryz.prog 54 [.c (R 4 e71 z71 a0), .c (R 4 e71 z71 a1)] [.c (.p (.sc (.bool r)))] := by
  unfold laws_eqRobotS.f at h
  refine VCalls.of (fn := Tryz.f54) (N := 27) Tryz.func54 rfl rfl (fun w0 => ?_)
  by_cases c1830 : (a0.length : Int) = (a1.length : Int)
  · replace h := (if_pos c1830).symm.trans h
    have H0 : ∀ (kq : Nat) (v604 : Int), laws_eqRobotS.l0 kq a0 a1 v604 = some r → AG Tryz.prog 54 27 [.c (.p (.sc (.bool r)))] w0 (headStk (codeOf Tryz.f54) 0) (mkFS (laws_eqRobotS.h0T a0 a1 v604) (laws_eqRobotS.h0H a0 a1 v604)) := by
      intro kq
      induction kq with
      | zero => intro v604 h; cases h
      | succ kq ih =>
        intro v604 h
        rw [laws_eqRobotS.l0] at h
        by_cases c1839 : v604 < (a0.length : Int)
        · replace h := (if_pos c1839).symm.trans h
          obtain ⟨c1840, h⟩ := ifN h
          obtain ⟨c1841, h⟩ := ifN h
          obtain ⟨t605, g1842, h⟩ := bindN h
          let C1842 := mkCon (laws_eqRobot.ok (rdD z71 a0 v604) (rdD z71 a1 v604) t605 g1842) laws_eqRobot.go
          by_cases c1843 : t605 = true
          · replace h := (if_pos c1843).symm.trans h
            exact byHead MX Tryz.func54 1000 [.b true, .call C1842, .b false, .fin] (o1 (decide_eq_true c1839) (o1 c1840 (o1 c1839 (o1 c1840 (o1 c1841 (oa (sc_ C1842) (o1 (bnf c1843) on))))))) (ih (w64 (v604 + 1)) h) (by kernel_rfl)
          · replace h := (if_neg c1843).symm.trans h
            cases h
            exact byRet MX Tryz.func54 1000 [.b true, .call C1842, .b true, .fin] (o1 (decide_eq_true c1839) (o1 c1840 (o1 c1839 (o1 c1840 (o1 c1841 (oa (sc_ C1842) (o1 (bnt (eqf c1843)) on))))))) (by kernel_rfl)
        · replace h := (if_neg c1839).symm.trans h
          cases h
          exact byRet MX Tryz.func54 1000 [.b false, .fin, .fin] (o1 (decide_eq_false c1839) on) (by kernel_rfl)
    exact byHead MX Tryz.func54 1000 [.b false, .fin] (o1 (bnf (decide_eq_true c1830)) on) (H0 k 0 h) (by kernel_rfl)
  · replace h := (if_neg c1830).symm.trans h
    cases h
    exact byRet MX Tryz.func54 1000 [.b true, .fin] (o1 (bnt (decide_eq_false c1830)) on) (by kernel_rfl)

/-! ### laws_eqIntS: function 58 -/
def laws_eqIntS.h0T (a0 : List Int) (a1 : List Int) (v607 : Int) : List (Nat × AV) := [(0, .t (.c (.p false (R 1 (eI .i64) 0 a0)))), (1, .t (.c (.p false (R 1 (eI .i64) 0 a1)))), (5, .t (.c (.p true (.sc (.int .i64 v607)))))]
def laws_eqIntS.h0H (a0 : List Int) (a1 : List Int) (v607 : Int) : List (Nat × Content) := []
def laws_eqIntS.l0 : Nat → List Int → List Int → Int → Option Bool
  | 0, _, _, _ => none
  | kq + 1, a0, a1, v607 => if v607 < (a0.length : Int) then (if 0 ≤ v607 then (if v607 < (a1.length : Int) then (if (rdD 0 a0 v607) = (rdD 0 a1 v607) then (laws_eqIntS.l0 kq a0 a1 (w64 (v607 + 1))) else (some false)) else none) else none) else (some true)
def laws_eqIntS.f (k : Nat) (a0 : List Int) (a1 : List Int) : Option Bool := if (a0.length : Int) = (a1.length : Int) then (laws_eqIntS.l0 k a0 a1 0) else (some false)
theorem laws_eqIntS.go : Callable Tryz.prog 58 := ⟨_, Tryz.func58, by kernel_rfl, rfl⟩
theorem laws_eqIntS.ok (k : Nat) (a0 : List Int) (a1 : List Int) (r : Bool) (h : laws_eqIntS.f k a0 a1 = some r) : VCalls Tryz.prog 58 [.c (R 1 (eI .i64) 0 a0), .c (R 1 (eI .i64) 0 a1)] [.c (.p (.sc (.bool r)))] := by
  unfold laws_eqIntS.f at h
  refine VCalls.of (fn := Tryz.f58) (N := 26) Tryz.func58 rfl rfl (fun w0 => ?_)
  by_cases c1848 : (a0.length : Int) = (a1.length : Int)
  · replace h := (if_pos c1848).symm.trans h
    have H0 : ∀ (kq : Nat) (v607 : Int), laws_eqIntS.l0 kq a0 a1 v607 = some r → AG Tryz.prog 58 26 [.c (.p (.sc (.bool r)))] w0 (headStk (codeOf Tryz.f58) 0) (mkFS (laws_eqIntS.h0T a0 a1 v607) (laws_eqIntS.h0H a0 a1 v607)) := by
      intro kq
      induction kq with
      | zero => intro v607 h; cases h
      | succ kq ih =>
        intro v607 h
        rw [laws_eqIntS.l0] at h
        by_cases c1852 : v607 < (a0.length : Int)
        · replace h := (if_pos c1852).symm.trans h
          obtain ⟨c1853, h⟩ := ifN h
          obtain ⟨c1854, h⟩ := ifN h
          by_cases c1855 : (rdD 0 a0 v607) = (rdD 0 a1 v607)
          · replace h := (if_pos c1855).symm.trans h
            exact byHead MX Tryz.func58 1000 [.b true, .b false, .fin] (o1 (decide_eq_true c1852) (o1 c1853 (o1 c1852 (o1 c1853 (o1 c1854 (o1 (bnf (decide_eq_true c1855)) on)))))) (ih (w64 (v607 + 1)) h) (by kernel_rfl)
          · replace h := (if_neg c1855).symm.trans h
            cases h
            exact byRet MX Tryz.func58 1000 [.b true, .b true, .fin] (o1 (decide_eq_true c1852) (o1 c1853 (o1 c1852 (o1 c1853 (o1 c1854 (o1 (bnt (decide_eq_false c1855)) on)))))) (by kernel_rfl)
        · replace h := (if_neg c1852).symm.trans h
          cases h
          exact byRet MX Tryz.func58 1000 [.b false, .fin, .fin] (o1 (decide_eq_false c1852) on) (by kernel_rfl)
    exact byHead MX Tryz.func58 1000 [.b false, .fin] (o1 (bnf (decide_eq_true c1848)) on) (H0 k 0 h) (by kernel_rfl)
  · replace h := (if_neg c1848).symm.trans h
    cases h
    exact byRet MX Tryz.func58 1000 [.b true, .fin] (o1 (bnt (decide_eq_false c1848)) on) (by kernel_rfl)

/-! ### laws_eqWindow: function 55 -/
def laws_eqWindow.f (k : Nat) (a0 : S42) (a1 : S42) : Option Bool := if a0.f0 = a1.f0 then (if a0.f1 = a1.f1 then ((laws_eqIntS.f k a0.f2 a1.f2).bind fun t608 => if t608 = true then (some true) else (some false)) else (some false)) else (some false)
theorem laws_eqWindow.go : Callable Tryz.prog 55 := ⟨_, Tryz.func55, by kernel_rfl, rfl⟩
theorem laws_eqWindow.ok (k : Nat) (a0 : S42) (a1 : S42) (r : Bool) (h : laws_eqWindow.f k a0 a1 = some r) : VCalls Tryz.prog 55 [.agg (e42 a0), .agg (e42 a1)] [.c (.p (.sc (.bool r)))] := by
  unfold laws_eqWindow.f at h
  refine VCalls.of (fn := Tryz.f55) (N := 21) Tryz.func55 rfl rfl (fun w0 => ?_)
  by_cases c1846 : a0.f0 = a1.f0
  · replace h := (if_pos c1846).symm.trans h
    by_cases c1847 : a0.f1 = a1.f1
    · replace h := (if_pos c1847).symm.trans h
      obtain ⟨t608, g1856, h⟩ := bindN h
      let C1856 := mkCon (laws_eqIntS.ok k a0.f2 a1.f2 t608 g1856) laws_eqIntS.go
      by_cases c1857 : t608 = true
      · replace h := (if_pos c1857).symm.trans h
        cases h
        exact byRet MX Tryz.func55 1000 [.b false, .b false, .call C1856, .b false, .fin] (o1 (bnf (decide_eq_true c1846)) (o1 (bnf (decide_eq_true c1847)) (oa (sc_ C1856) (o1 (bnf c1857) on)))) (by kernel_rfl)
      · replace h := (if_neg c1857).symm.trans h
        cases h
        exact byRet MX Tryz.func55 1000 [.b false, .b false, .call C1856, .b true, .fin] (o1 (bnf (decide_eq_true c1846)) (o1 (bnf (decide_eq_true c1847)) (oa (sc_ C1856) (o1 (bnt (eqf c1857)) on)))) (by kernel_rfl)
    · replace h := (if_neg c1847).symm.trans h
      cases h
      exact byRet MX Tryz.func55 1000 [.b false, .b true, .fin] (o1 (bnf (decide_eq_true c1846)) (o1 (bnt (decide_eq_false c1847)) on)) (by kernel_rfl)
  · replace h := (if_neg c1846).symm.trans h
    cases h
    exact byRet MX Tryz.func55 1000 [.b true, .fin] (o1 (bnt (decide_eq_false c1846)) on) (by kernel_rfl)

/-! ### laws_eqWay: function 136 -/
def laws_eqWay.f (k : Nat) (a0 : S65) (a1 : S65) : Option Bool := (laws_eqIntS.f k a0.f0 a1.f0).bind fun t610 => if t610 = true then (some true) else (some false)
theorem laws_eqWay.go : Callable Tryz.prog 136 := ⟨_, Tryz.func136, by kernel_rfl, rfl⟩
theorem laws_eqWay.ok (k : Nat) (a0 : S65) (a1 : S65) (r : Bool) (h : laws_eqWay.f k a0 a1 = some r) : VCalls Tryz.prog 136 [.agg (e65 a0), .agg (e65 a1)] [.c (.p (.sc (.bool r)))] := by
  unfold laws_eqWay.f at h
  refine VCalls.of (fn := Tryz.f136) (N := 11) Tryz.func136 rfl rfl (fun w0 => ?_)
  obtain ⟨t610, g1867, h⟩ := bindN h
  let C1867 := mkCon (laws_eqIntS.ok k a0.f0 a1.f0 t610 g1867) laws_eqIntS.go
  by_cases c1868 : t610 = true
  · replace h := (if_pos c1868).symm.trans h
    cases h
    exact byRet MX Tryz.func136 1000 [.call C1867, .b false, .fin] (oa (sc_ C1867) (o1 (bnf c1868) on)) (by kernel_rfl)
  · replace h := (if_neg c1868).symm.trans h
    cases h
    exact byRet MX Tryz.func136 1000 [.call C1867, .b true, .fin] (oa (sc_ C1867) (o1 (bnt (eqf c1868)) on)) (by kernel_rfl)

/-! ### laws_eqWayS: function 113 -/
def laws_eqWayS.h0T (a0 : List S65) (a1 : List S65) (v612 : Int) : List (Nat × AV) := [(0, .t (.c (.p false (R 1 e65 z65 a0)))), (1, .t (.c (.p false (R 1 e65 z65 a1)))), (5, .t (.c (.p true (.sc (.int .i64 v612)))))]
def laws_eqWayS.h0H (a0 : List S65) (a1 : List S65) (v612 : Int) : List (Nat × Content) := []
def laws_eqWayS.l0 : Nat → List S65 → List S65 → Int → Option Bool
  | 0, _, _, _ => none
  | kq + 1, a0, a1, v612 => if v612 < (a0.length : Int) then (if 0 ≤ v612 then (if v612 < (a1.length : Int) then ((laws_eqWay.f kq (rdD z65 a0 v612) (rdD z65 a1 v612)).bind fun t613 => if t613 = true then (laws_eqWayS.l0 kq a0 a1 (w64 (v612 + 1))) else (some false)) else none) else none) else (some true)
def laws_eqWayS.f (k : Nat) (a0 : List S65) (a1 : List S65) : Option Bool := if (a0.length : Int) = (a1.length : Int) then (laws_eqWayS.l0 k a0 a1 0) else (some false)
theorem laws_eqWayS.go : Callable Tryz.prog 113 := ⟨_, Tryz.func113, by kernel_rfl, rfl⟩
theorem laws_eqWayS.ok (k : Nat) (a0 : List S65) (a1 : List S65) (r : Bool) (h : laws_eqWayS.f k a0 a1 = some r) : VCalls Tryz.prog 113 [.c (R 1 e65 z65 a0), .c (R 1 e65 z65 a1)] [.c (.p (.sc (.bool r)))] := by
  unfold laws_eqWayS.f at h
  refine VCalls.of (fn := Tryz.f113) (N := 27) Tryz.func113 rfl rfl (fun w0 => ?_)
  by_cases c1864 : (a0.length : Int) = (a1.length : Int)
  · replace h := (if_pos c1864).symm.trans h
    have H0 : ∀ (kq : Nat) (v612 : Int), laws_eqWayS.l0 kq a0 a1 v612 = some r → AG Tryz.prog 113 27 [.c (.p (.sc (.bool r)))] w0 (headStk (codeOf Tryz.f113) 0) (mkFS (laws_eqWayS.h0T a0 a1 v612) (laws_eqWayS.h0H a0 a1 v612)) := by
      intro kq
      induction kq with
      | zero => intro v612 h; cases h
      | succ kq ih =>
        intro v612 h
        rw [laws_eqWayS.l0] at h
        by_cases c1871 : v612 < (a0.length : Int)
        · replace h := (if_pos c1871).symm.trans h
          obtain ⟨c1872, h⟩ := ifN h
          obtain ⟨c1873, h⟩ := ifN h
          obtain ⟨t613, g1874, h⟩ := bindN h
          let C1874 := mkCon (laws_eqWay.ok kq (rdD z65 a0 v612) (rdD z65 a1 v612) t613 g1874) laws_eqWay.go
          by_cases c1875 : t613 = true
          · replace h := (if_pos c1875).symm.trans h
            exact byHead MX Tryz.func113 1000 [.b true, .call C1874, .b false, .fin] (o1 (decide_eq_true c1871) (o1 c1872 (o1 c1871 (o1 c1872 (o1 c1873 (oa (sc_ C1874) (o1 (bnf c1875) on))))))) (ih (w64 (v612 + 1)) h) (by kernel_rfl)
          · replace h := (if_neg c1875).symm.trans h
            cases h
            exact byRet MX Tryz.func113 1000 [.b true, .call C1874, .b true, .fin] (o1 (decide_eq_true c1871) (o1 c1872 (o1 c1871 (o1 c1872 (o1 c1873 (oa (sc_ C1874) (o1 (bnt (eqf c1875)) on))))))) (by kernel_rfl)
        · replace h := (if_neg c1871).symm.trans h
          cases h
          exact byRet MX Tryz.func113 1000 [.b false, .fin, .fin] (o1 (decide_eq_false c1871) on) (by kernel_rfl)
    exact byHead MX Tryz.func113 1000 [.b false, .fin] (o1 (bnf (decide_eq_true c1864)) on) (H0 k 0 h) (by kernel_rfl)
  · replace h := (if_neg c1864).symm.trans h
    cases h
    exact byRet MX Tryz.func113 1000 [.b true, .fin] (o1 (bnt (decide_eq_false c1864)) on) (by kernel_rfl)

/-! ### laws_eqPlan: function 56 -/
def laws_eqPlan.f (k : Nat) (a0 : S45) (a1 : S45) : Option Bool := if a0.f0 = a1.f0 then (if a0.f1 = a1.f1 then ((laws_eqWayS.f k a0.f2 a1.f2).bind fun t614 => if t614 = true then (some true) else (some false)) else (some false)) else (some false)
theorem laws_eqPlan.go : Callable Tryz.prog 56 := ⟨_, Tryz.func56, by kernel_rfl, rfl⟩
theorem laws_eqPlan.ok (k : Nat) (a0 : S45) (a1 : S45) (r : Bool) (h : laws_eqPlan.f k a0 a1 = some r) : VCalls Tryz.prog 56 [.agg (e45 a0), .agg (e45 a1)] [.c (.p (.sc (.bool r)))] := by
  unfold laws_eqPlan.f at h
  refine VCalls.of (fn := Tryz.f56) (N := 21) Tryz.func56 rfl rfl (fun w0 => ?_)
  by_cases c1862 : a0.f0 = a1.f0
  · replace h := (if_pos c1862).symm.trans h
    by_cases c1863 : a0.f1 = a1.f1
    · replace h := (if_pos c1863).symm.trans h
      obtain ⟨t614, g1876, h⟩ := bindN h
      let C1876 := mkCon (laws_eqWayS.ok k a0.f2 a1.f2 t614 g1876) laws_eqWayS.go
      by_cases c1877 : t614 = true
      · replace h := (if_pos c1877).symm.trans h
        cases h
        exact byRet MX Tryz.func56 1000 [.b false, .b false, .call C1876, .b false, .fin] (o1 (bnf (decide_eq_true c1862)) (o1 (bnf (decide_eq_true c1863)) (oa (sc_ C1876) (o1 (bnf c1877) on)))) (by kernel_rfl)
      · replace h := (if_neg c1877).symm.trans h
        cases h
        exact byRet MX Tryz.func56 1000 [.b false, .b false, .call C1876, .b true, .fin] (o1 (bnf (decide_eq_true c1862)) (o1 (bnf (decide_eq_true c1863)) (oa (sc_ C1876) (o1 (bnt (eqf c1877)) on)))) (by kernel_rfl)
    · replace h := (if_neg c1863).symm.trans h
      cases h
      exact byRet MX Tryz.func56 1000 [.b false, .b true, .fin] (o1 (bnf (decide_eq_true c1862)) (o1 (bnt (decide_eq_false c1863)) on)) (by kernel_rfl)
  · replace h := (if_neg c1862).symm.trans h
    cases h
    exact byRet MX Tryz.func56 1000 [.b true, .fin] (o1 (bnt (decide_eq_false c1862)) on) (by kernel_rfl)
end Go.Proofs.YtnnppdjmhellcaaGreat.V
