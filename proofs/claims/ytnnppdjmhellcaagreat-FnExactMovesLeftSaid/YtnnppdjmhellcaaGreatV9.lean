/- What each Go function computes, and that the machine does so: printed by a program of this session (avgen.py). -/
import Derived.Test.YtnnppdjmhellcaaGreatV8
namespace Go.Proofs.YtnnppdjmhellcaaGreat.V
open Go Go.Av Go.Proofs
set_option linter.unusedVariables false
set_option maxRecDepth 100000
/-! ### impl_formFault: function 93 -/
def impl_formFault.h0T (a0 : List Int) (a1 : S45) (v504 : Int) : List (Nat × AV) := [(0, .t (.c (.p false (R 1 (eI .i64) 0 a0)))), (3, .ptr 192 0), (14, .t (.c (.p false (R 1 e65 z65 a1.f2)))), (15, .t (.c (.p true (.sc (.int .i64 (a1.f2.length : Int)))))), (16, .t (.c (.p true (.sc (.int .i64 v504)))))]
def impl_formFault.h0H (a0 : List Int) (a1 : S45) (v504 : Int) : List (Nat × Content) := [(192, .box 45 [.p false (.sc (.int .i64 a1.f0)), .p false (.sc (.int .i64 a1.f1)), .p false (R 1 e65 z65 a1.f2)])]
def impl_formFault.l0 : Nat → S45 → List Int → Int → Option Bool
  | 0, _, _, _ => none
  | kq + 1, a1, a0, v504 => if v504 < (a1.f2.length : Int) then (if 0 ≤ v504 then (if (((rdD z65 a1.f2 v504).f0).length : Int) = (w64 (a1.f0 + 1)) then (if 0 < (((rdD z65 a1.f2 v504).f0).length : Int) then (if v504 < (a0.length : Int) then (if (rdD 0 ((rdD z65 a1.f2 v504).f0) 0) = (rdD 0 a0 v504) then (impl_formFault.l0 kq a1 a0 (w64 (v504 + 1))) else (some true)) else none) else none) else (some true)) else none) else (some false)
def impl_formFault.f (k : Nat) (a0 : List Int) (a1 : S45) : Option Bool := if (a1.f2.length : Int) = (a0.length : Int) then (impl_formFault.l0 k a1 a0 0) else (some true)
theorem impl_formFault.go : Callable Tryz.prog 93 := ⟨_, Tryz.func93, by kernel_rfl, rfl⟩
theorem impl_formFault.ok (k : Nat) (a0 : List Int) (a1 : S45) (r : Bool) (h : impl_formFault.f k a0 a1 = some r) : VCalls Tryz.prog 93 [.c (R 1 (eI .i64) 0 a0), .agg (e45 a1)] [.c (.p (.sc (.bool r)))] := by
  unfold impl_formFault.f at h
  refine VCalls.of (fn := Tryz.f93) (N := 40) Tryz.func93 rfl rfl (fun w0 => ?_)
  by_cases c1560 : (a1.f2.length : Int) = (a0.length : Int)
  · replace h := (if_pos c1560).symm.trans h
    have H0 : ∀ (kq : Nat) (v504 : Int), impl_formFault.l0 kq a1 a0 v504 = some r → AG Tryz.prog 93 40 [.c (.p (.sc (.bool r)))] w0 (headStk (codeOf Tryz.f93) 0) (mkFS (impl_formFault.h0T a0 a1 v504) (impl_formFault.h0H a0 a1 v504)) := by
      intro kq
      induction kq with
      | zero => intro v504 h; cases h
      | succ kq ih =>
        intro v504 h
        rw [impl_formFault.l0] at h
        by_cases c1566 : v504 < (a1.f2.length : Int)
        · replace h := (if_pos c1566).symm.trans h
          obtain ⟨c1567, h⟩ := ifN h
          by_cases c1568 : (((rdD z65 a1.f2 v504).f0).length : Int) = (w64 (a1.f0 + 1))
          · replace h := (if_pos c1568).symm.trans h
            obtain ⟨c1569, h⟩ := ifN h
            obtain ⟨c1570, h⟩ := ifN h
            by_cases c1571 : (rdD 0 ((rdD z65 a1.f2 v504).f0) 0) = (rdD 0 a0 v504)
            · replace h := (if_pos c1571).symm.trans h
              exact byHead MX Tryz.func93 1000 [.b true, .dec 28 false, .b false, .fin] (o1 (decide_eq_true c1566) (o1 c1567 (o1 c1566 (o1 (bnf (decide_eq_true c1568)) (o1 (by decide : (0 : Int) ≤ 0) (o1 c1569 (o1 c1567 (o1 c1570 (o1 (bnf (decide_eq_true c1571)) on))))))))) (ih (w64 (v504 + 1)) h) (by kernel_rfl)
            · replace h := (if_neg c1571).symm.trans h
              cases h
              exact byRet MX Tryz.func93 1000 [.b true, .dec 28 false, .b true, .fin] (o1 (decide_eq_true c1566) (o1 c1567 (o1 c1566 (o1 (bnf (decide_eq_true c1568)) (o1 (by decide : (0 : Int) ≤ 0) (o1 c1569 (o1 c1567 (o1 c1570 (o1 (bnt (decide_eq_false c1571)) on))))))))) (by kernel_rfl)
          · replace h := (if_neg c1568).symm.trans h
            cases h
            exact byRet MX Tryz.func93 1000 [.b true, .dec 28 true, .b true, .fin] (o1 (decide_eq_true c1566) (o1 c1567 (o1 c1566 (o1 (bnt (decide_eq_false c1568)) (o1 (rfl : true = true) on))))) (by kernel_rfl)
        · replace h := (if_neg c1566).symm.trans h
          cases h
          exact byRet MX Tryz.func93 1000 [.b false, .fin, .fin] (o1 (decide_eq_false c1566) on) (by kernel_rfl)
    exact byHead MX Tryz.func93 1000 [.b false, .fin] (o1 (bnf (decide_eq_true c1560)) on) (H0 k 0 h) (by kernel_rfl)
  · replace h := (if_neg c1560).symm.trans h
    cases h
    exact byRet MX Tryz.func93 1000 [.b true, .fin] (o1 (bnt (decide_eq_false c1560)) on) (by kernel_rfl)

/-! ### impl_stepFault: function 94 -/
def impl_stepFault.h1T (a1 : List S65) (v512 : Int) (v514 : Int) (a0 : S38) : List (Nat × AV) := [(2, .ptr 128 0), (6, .ptr 384 0), (9, .t (.c (.p false (R 1 e65 z65 a1)))), (10, .t (.c (.p true (.sc (.int .i64 (a1.length : Int)))))), (11, .t (.c (.p true (.sc (.int .i64 v512))))), (16, .t (.c (.p false (R 1 (eI .i64) 0 ((rdD z65 a1 v512).f0))))), (17, .t (.c (.p true (.sc (.int .i64 (((rdD z65 a1 v512).f0).length : Int)))))), (18, .t (.c (.p true (.sc (.int .i64 v514)))))]
def impl_stepFault.h1H (a1 : List S65) (v512 : Int) (v514 : Int) (a0 : S38) : List (Nat × Content) := [(128, .box 38 [.p false (.sc (.int .i64 a0.f0)), .p false (.sc (.int .i64 a0.f1)), .p false (.sc (.string a0.f2))]), (384, .box 65 [.p false (R 1 (eI .i64) 0 ((rdD z65 a1 v512).f0))])]
def impl_stepFault.x1T (a1 : List S65) (v512 : Int) (a0 : S38) : List (Nat × AV) := [(2, .ptr 128 0), (9, .t (.c (.p false (R 1 e65 z65 a1)))), (10, .t (.c (.p true (.sc (.int .i64 (a1.length : Int)))))), (11, .t (.c (.p true (.sc (.int .i64 v512)))))]
def impl_stepFault.x1H (a1 : List S65) (v512 : Int) (a0 : S38) : List (Nat × Content) := [(128, .box 38 [.p false (.sc (.int .i64 a0.f0)), .p false (.sc (.int .i64 a0.f1)), .p false (.sc (.string a0.f2))])]
def impl_stepFault.l1 : Nat → List S65 → Int → S38 → Int → Option (Bool ⊕ Unit)
  | 0, _, _, _, _ => none
  | kq + 1, a1, v512, a0, v514 => if v514 < (((rdD z65 a1 v512).f0).length : Int) then (if 0 ≤ v514 then ((impl_isFree.f a0 (rdD 0 ((rdD z65 a1 v512).f0) v514)).bind fun t515 => if t515 = true then (if 0 < v514 then (if 0 ≤ (w64 (v514 - 1)) then (if (w64 (v514 - 1)) < (((rdD z65 a1 v512).f0).length : Int) then (if (rdD 0 ((rdD z65 a1 v512).f0) v514) = (rdD 0 ((rdD z65 a1 v512).f0) (w64 (v514 - 1))) then (impl_stepFault.l1 kq a1 v512 a0 (w64 (v514 + 1))) else ((impl_around.f a0 (rdD 0 ((rdD z65 a1 v512).f0) (w64 (v514 - 1)))).bind fun t516 => (slices_Contains_int_int.f kq t516 (rdD 0 ((rdD z65 a1 v512).f0) v514)).bind fun t517 => if t517 = true then (impl_stepFault.l1 kq a1 v512 a0 (w64 (v514 + 1))) else (some (.inl true)))) else none) else none) else (impl_stepFault.l1 kq a1 v512 a0 (w64 (v514 + 1)))) else (some (.inl true))) else none) else (some (.inr ()))
def impl_stepFault.h0T (a1 : List S65) (v512 : Int) (a0 : S38) : List (Nat × AV) := [(2, .ptr 128 0), (9, .t (.c (.p false (R 1 e65 z65 a1)))), (10, .t (.c (.p true (.sc (.int .i64 (a1.length : Int)))))), (11, .t (.c (.p true (.sc (.int .i64 v512)))))]
def impl_stepFault.h0H (a1 : List S65) (v512 : Int) (a0 : S38) : List (Nat × Content) := [(128, .box 38 [.p false (.sc (.int .i64 a0.f0)), .p false (.sc (.int .i64 a0.f1)), .p false (.sc (.string a0.f2))])]
def impl_stepFault.l0 : Nat → List S65 → S38 → Int → Option Bool
  | 0, _, _, _ => none
  | kq + 1, a1, a0, v512 => if v512 < (a1.length : Int) then (if 0 ≤ v512 then ((impl_stepFault.l1 kq a1 v512 a0 0).bind fun x1613 => match x1613 with | .inl r => some r | .inr y518 => (impl_stepFault.l0 kq a1 a0 (w64 (v512 + 1)))) else none) else (some false)
def impl_stepFault.f (k : Nat) (a0 : S38) (a1 : List S65) : Option Bool := impl_stepFault.l0 k a1 a0 0
theorem impl_stepFault.go : Callable Tryz.prog 94 := ⟨_, Tryz.func94, by kernel_rfl, rfl⟩
theorem impl_stepFault.ok (k : Nat) (a0 : S38) (a1 : List S65) (r : Bool) (h : impl_stepFault.f k a0 a1 = some r) : VCalls Tryz.prog 94 [.agg (e38 a0), .c (R 1 e65 z65 a1)] [.c (.p (.sc (.bool r)))] := by
  unfold impl_stepFault.f at h
  refine VCalls.of (fn := Tryz.f94) (N := 56) Tryz.func94 rfl rfl (fun w0 => ?_)
  have H0 : ∀ (kq : Nat) (v512 : Int), impl_stepFault.l0 kq a1 a0 v512 = some r → AG Tryz.prog 94 56 [.c (.p (.sc (.bool r)))] w0 (headStk (codeOf Tryz.f94) 0) (mkFS (impl_stepFault.h0T a1 v512 a0) (impl_stepFault.h0H a1 v512 a0)) := by
    intro kq
    induction kq with
    | zero => intro v512 h; cases h
    | succ kq ih =>
      intro v512 h
      rw [impl_stepFault.l0] at h
      by_cases c1593 : v512 < (a1.length : Int)
      · replace h := (if_pos c1593).symm.trans h
        obtain ⟨c1594, h⟩ := ifN h
        have H1 : ∀ (kq : Nat) (v514 : Int) (x : (Bool ⊕ Unit)), impl_stepFault.l1 kq a1 v512 a0 v514 = some x → (match x with | .inl r' => r' = r | .inr y518 => AG Tryz.prog 94 56 [.c (.p (.sc (.bool r)))] w0 (exitStk (codeOf Tryz.f94) 1) (mkFS (impl_stepFault.x1T a1 v512 a0) (impl_stepFault.x1H a1 v512 a0))) → AG Tryz.prog 94 56 [.c (.p (.sc (.bool r)))] w0 (headStk (codeOf Tryz.f94) 1) (mkFS (impl_stepFault.h1T a1 v512 v514 a0) (impl_stepFault.h1H a1 v512 v514 a0)) := by
          intro kq
          induction kq with
          | zero => intro v514 x h hx; cases h
          | succ kq ih =>
            intro v514 x h hx
            rw [impl_stepFault.l1] at h
            by_cases c1602 : v514 < (((rdD z65 a1 v512).f0).length : Int)
            · replace h := (if_pos c1602).symm.trans h
              obtain ⟨c1603, h⟩ := ifN h
              obtain ⟨t515, g1604, h⟩ := bindN h
              let C1604 := mkCon (impl_isFree.ok a0 (rdD 0 ((rdD z65 a1 v512).f0) v514) t515 g1604) impl_isFree.go
              by_cases c1605 : t515 = true
              · replace h := (if_pos c1605).symm.trans h
                by_cases c1606 : 0 < v514
                · replace h := (if_pos c1606).symm.trans h
                  obtain ⟨c1607, h⟩ := ifN h
                  obtain ⟨c1608, h⟩ := ifN h
                  by_cases c1609 : (rdD 0 ((rdD z65 a1 v512).f0) v514) = (rdD 0 ((rdD z65 a1 v512).f0) (w64 (v514 - 1)))
                  · replace h := (if_pos c1609).symm.trans h
                    exact byHead MX Tryz.func94 1000 [.b true, .call C1604, .dec 27 false, .dec 30 true, .dec 40 false, .b false, .fin] (o1 (decide_eq_true c1602) (o1 c1603 (o1 c1602 (oa (sc_ C1604) (o1 (bnf c1605) (o1 (decide_eq_true c1606) (o1 c1607 (o1 c1608 (o1 (bnf (decide_eq_true c1609)) (o1 (rfl : false = false) on)))))))))) (ih (w64 (v514 + 1)) _ h hx) (by kernel_rfl)
                  · replace h := (if_neg c1609).symm.trans h
                    obtain ⟨t516, g1610, h⟩ := bindN h
                    let C1610 := mkCon (impl_around.ok a0 (rdD 0 ((rdD z65 a1 v512).f0) (w64 (v514 - 1))) t516 g1610) impl_around.go
                    obtain ⟨t517, g1611, h⟩ := bindN h
                    let C1611 := mkCon (slices_Contains_int_int.ok kq t516 (rdD 0 ((rdD z65 a1 v512).f0) v514) t517 g1611) slices_Contains_int_int.go
                    by_cases c1612 : t517 = true
                    · replace h := (if_pos c1612).symm.trans h
                      exact byHead MX Tryz.func94 1000 [.b true, .call C1604, .dec 27 false, .dec 30 true, .dec 40 true, .call C1610, .call C1611, .b false, .fin] (o1 (decide_eq_true c1602) (o1 c1603 (o1 c1602 (oa (sc_ C1604) (o1 (bnf c1605) (o1 (decide_eq_true c1606) (o1 c1607 (o1 c1608 (o1 (bnt (decide_eq_false c1609)) (o1 c1607 (o1 c1608 (oa (sc_ C1610) (oa (sc_ C1611) (o1 (bnf c1612) on)))))))))))))) (ih (w64 (v514 + 1)) _ h hx) (by kernel_rfl)
                    · replace h := (if_neg c1612).symm.trans h
                      cases h
                      subst hx
                      exact byRet MX Tryz.func94 1000 [.b true, .call C1604, .dec 27 false, .dec 30 true, .dec 40 true, .call C1610, .call C1611, .b true, .fin] (o1 (decide_eq_true c1602) (o1 c1603 (o1 c1602 (oa (sc_ C1604) (o1 (bnf c1605) (o1 (decide_eq_true c1606) (o1 c1607 (o1 c1608 (o1 (bnt (decide_eq_false c1609)) (o1 c1607 (o1 c1608 (oa (sc_ C1610) (oa (sc_ C1611) (o1 (bnt (eqf c1612)) on)))))))))))))) (by kernel_rfl)
                · replace h := (if_neg c1606).symm.trans h
                  exact byHead MX Tryz.func94 1000 [.b true, .call C1604, .dec 27 false, .dec 30 false, .b false, .fin] (o1 (decide_eq_true c1602) (o1 c1603 (o1 c1602 (oa (sc_ C1604) (o1 (bnf c1605) (o1 (decide_eq_false c1606) (o1 (rfl : false = false) on))))))) (ih (w64 (v514 + 1)) _ h hx) (by kernel_rfl)
              · replace h := (if_neg c1605).symm.trans h
                cases h
                subst hx
                exact byRet MX Tryz.func94 1000 [.b true, .call C1604, .dec 27 true, .b true, .fin] (o1 (decide_eq_true c1602) (o1 c1603 (o1 c1602 (oa (sc_ C1604) (o1 (bnt (eqf c1605)) (o1 (rfl : true = true) on)))))) (by kernel_rfl)
            · replace h := (if_neg c1602).symm.trans h
              cases h
              exact byStop MX Tryz.func94 1000 [.b false, .fin] (o1 (decide_eq_false c1602) on) hx (by kernel_rfl)
        obtain ⟨x1613, g1613, h⟩ := bindN h
        cases x1613 with
        | inl r' =>
          exact byHead MX Tryz.func94 1000 [.b true, .fin] (o1 (decide_eq_true c1593) (o1 c1594 (o1 c1593 on))) (H1 kq 0 _ g1613 (Option.some.inj h)) (by kernel_rfl)
        | inr y518 =>
          refine byHead MX Tryz.func94 1000 [.b true, .fin] (o1 (decide_eq_true c1593) (o1 c1594 (o1 c1593 on))) (H1 kq 0 _ g1613 ?_) (by kernel_rfl)
          show AG Tryz.prog 94 56 [.c (.p (.sc (.bool r)))] w0 (exitStk (codeOf Tryz.f94) 1) (mkFS (impl_stepFault.x1T a1 v512 a0) (impl_stepFault.x1H a1 v512 a0))
          exact byHead MX Tryz.func94 1000 [.fin] on (ih (w64 (v512 + 1)) h) (by kernel_rfl)
      · replace h := (if_neg c1593).symm.trans h
        cases h
        exact byRet MX Tryz.func94 1000 [.b false, .fin, .fin] (o1 (decide_eq_false c1593) on) (by kernel_rfl)
  exact byHead MX Tryz.func94 1000 [.fin] on (H0 k 0 h) (by kernel_rfl)

/-! ### impl_areLevel_1: function 155 -/
def impl_areLevel_1.f (a0 : S65) (a1 : List S65) : Option Bool := if 0 < (a1.length : Int) then (some (!decide ((a0.f0.length : Int) = (((rdD z65 a1 0).f0).length : Int)))) else none
theorem impl_areLevel_1.go : Callable Tryz.prog 155 := ⟨_, Tryz.func155, by kernel_rfl, rfl⟩
theorem impl_areLevel_1.ok (a0 : S65) (a1 : List S65) (r : Bool) (h : impl_areLevel_1.f a0 a1 = some r) : VCalls Tryz.prog 155 [.agg (e65 a0), .ptr [R 1 e65 z65 a1]] [.c (.p (.sc (.bool r)))] := by
  unfold impl_areLevel_1.f at h
  refine VCalls.of (fn := Tryz.f155) (N := 13) Tryz.func155 rfl rfl (fun w0 => ?_)
  obtain ⟨c1618, h⟩ := ifN h
  cases h
  exact byRet MX Tryz.func155 1000 [.fin] (o1 (by decide : (0 : Int) ≤ 0) (o1 c1618 on)) (by kernel_rfl)

/-! ### slices_IndexFunc_impl_Way_impl_Way_1: function 141 -/
def slices_IndexFunc_impl_Way_impl_Way_1.h0T (a0 : List S65) (gi1 : FuncId) (u1_0_0 : V) (v521 : Int) : List (Nat × AV) := [(0, .t (.c (.p false (R 1 e65 z65 a0)))), (1, .bfn gi1 [[u1_0_0]]), (7, .t (.c (.p true (.sc (.int .i64 (a0.length : Int)))))), (8, .t (.c (.p true (.sc (.int .i64 v521)))))]
def slices_IndexFunc_impl_Way_impl_Way_1.h0H (a0 : List S65) (gi1 : FuncId) (u1_0_0 : V) (v521 : Int) : List (Nat × Content) := []
def slices_IndexFunc_impl_Way_impl_Way_1.l0 : Nat → List S65 → (S65 → Option Bool) → Int → Option Int
  | 0, _, _, _ => none
  | kq + 1, a0, p1, v521 => if v521 < (a0.length : Int) then (if 0 ≤ v521 then ((p1 (rdD z65 a0 v521)).bind fun t522 => if t522 = true then (some v521) else (slices_IndexFunc_impl_Way_impl_Way_1.l0 kq a0 p1 (w64 (v521 + 1)))) else none) else (some (-1))
def slices_IndexFunc_impl_Way_impl_Way_1.f (k : Nat) (a0 : List S65) (p1 : S65 → Option Bool) : Option Int := slices_IndexFunc_impl_Way_impl_Way_1.l0 k a0 p1 0
theorem slices_IndexFunc_impl_Way_impl_Way_1.go : Callable Tryz.prog 141 := ⟨_, Tryz.func141, by kernel_rfl, rfl⟩
theorem slices_IndexFunc_impl_Way_impl_Way_1.ok (k : Nat) (a0 : List S65) (p1 : S65 → Option Bool) (gi1 : FuncId) (u1_0_0 : V) (hp1 : ∀ x0 r, p1 x0 = some r → VCalls Tryz.prog gi1 [.agg (e65 x0), .ptr [u1_0_0]] [.c (.p (.sc (.bool r)))]) (go1 : Callable Tryz.prog gi1) (r : Int) (h : slices_IndexFunc_impl_Way_impl_Way_1.f k a0 p1 = some r) : VCalls Tryz.prog 141 [.c (R 1 e65 z65 a0), .fn gi1 [[u1_0_0]]] [.c (.p (.sc (.int .i64 r)))] := by
  unfold slices_IndexFunc_impl_Way_impl_Way_1.f at h
  refine VCalls.of (fn := Tryz.f141) (N := 19) Tryz.func141 rfl rfl (fun w0 => ?_)
  have H0 : ∀ (kq : Nat) (v521 : Int), slices_IndexFunc_impl_Way_impl_Way_1.l0 kq a0 p1 v521 = some r → AG Tryz.prog 141 19 [.c (.p (.sc (.int .i64 r)))] w0 (headStk (codeOf Tryz.f141) 0) (mkFS (slices_IndexFunc_impl_Way_impl_Way_1.h0T a0 gi1 u1_0_0 v521) (slices_IndexFunc_impl_Way_impl_Way_1.h0H a0 gi1 u1_0_0 v521)) := by
    intro kq
    induction kq with
    | zero => intro v521 h; cases h
    | succ kq ih =>
      intro v521 h
      rw [slices_IndexFunc_impl_Way_impl_Way_1.l0] at h
      by_cases c1623 : v521 < (a0.length : Int)
      · replace h := (if_pos c1623).symm.trans h
        obtain ⟨c1624, h⟩ := ifN h
        obtain ⟨t522, g1625, h⟩ := bindN h
        let C1625 := mkCon (hp1 (rdD z65 a0 v521) t522 g1625) go1
        by_cases c1626 : t522 = true
        · replace h := (if_pos c1626).symm.trans h
          cases h
          exact byRet MX Tryz.func141 1000 [.b true, .call C1625, .b true, .fin] (o1 (decide_eq_true c1623) (o1 c1624 (o1 c1623 (oa (sc_ C1625) (o1 c1626 on))))) (by kernel_rfl)
        · replace h := (if_neg c1626).symm.trans h
          exact byHead MX Tryz.func141 1000 [.b true, .call C1625, .b false, .fin] (o1 (decide_eq_true c1623) (o1 c1624 (o1 c1623 (oa (sc_ C1625) (o1 (eqf c1626) on))))) (ih (w64 (v521 + 1)) h) (by kernel_rfl)
      · replace h := (if_neg c1623).symm.trans h
        cases h
        exact byRet MX Tryz.func141 1000 [.b false, .fin, .fin] (o1 (decide_eq_false c1623) on) (by kernel_rfl)
  exact byHead MX Tryz.func141 1000 [.fin] on (H0 k 0 h) (by kernel_rfl)

/-! ### slices_ContainsFunc_impl_Way_impl_Way_1: function 125 -/
def slices_ContainsFunc_impl_Way_impl_Way_1.f (k : Nat) (a0 : List S65) (p1 : S65 → Option Bool) : Option Bool := (slices_IndexFunc_impl_Way_impl_Way_1.f k a0 p1).bind fun t523 => some (decide (0 ≤ t523))
theorem slices_ContainsFunc_impl_Way_impl_Way_1.go : Callable Tryz.prog 125 := ⟨_, Tryz.func125, by kernel_rfl, rfl⟩
theorem slices_ContainsFunc_impl_Way_impl_Way_1.ok (k : Nat) (a0 : List S65) (p1 : S65 → Option Bool) (gi1 : FuncId) (u1_0_0 : V) (hp1 : ∀ x0 r, p1 x0 = some r → VCalls Tryz.prog gi1 [.agg (e65 x0), .ptr [u1_0_0]] [.c (.p (.sc (.bool r)))]) (go1 : Callable Tryz.prog gi1) (r : Bool) (h : slices_ContainsFunc_impl_Way_impl_Way_1.f k a0 p1 = some r) : VCalls Tryz.prog 125 [.c (R 1 e65 z65 a0), .fn gi1 [[u1_0_0]]] [.c (.p (.sc (.bool r)))] := by
  unfold slices_ContainsFunc_impl_Way_impl_Way_1.f at h
  refine VCalls.of (fn := Tryz.f125) (N := 9) Tryz.func125 rfl rfl (fun w0 => ?_)
  obtain ⟨t523, g1627, h⟩ := bindN h
  let C1627 := mkCon (slices_IndexFunc_impl_Way_impl_Way_1.ok k a0 p1 gi1 u1_0_0 hp1 go1 t523 g1627) slices_IndexFunc_impl_Way_impl_Way_1.go
  cases h
  exact byRet MX Tryz.func125 1000 [.call C1627, .fin] (oa (sc_ C1627) on) (by kernel_rfl)

/-! ### impl_areLevel: function 149 -/
def impl_areLevel.f (k : Nat) (a0 : List S65) : Option Bool := if 1 ≤ (a0.length : Int) then (if (a0.length : Int) ≤ 10 then ((slices_ContainsFunc_impl_Way_impl_Way_1.f k a0 (fun x1619 => impl_areLevel_1.f x1619 a0)).bind fun t524 => some (!t524)) else (some false)) else (some false)
theorem impl_areLevel.go : Callable Tryz.prog 149 := ⟨_, Tryz.func149, by kernel_rfl, rfl⟩
theorem impl_areLevel.ok (k : Nat) (a0 : List S65) (r : Bool) (h : impl_areLevel.f k a0 = some r) : VCalls Tryz.prog 149 [.c (R 1 e65 z65 a0)] [.c (.p (.sc (.bool r)))] := by
  unfold impl_areLevel.f at h
  refine VCalls.of (fn := Tryz.f149) (N := 17) Tryz.func149 rfl rfl (fun w0 => ?_)
  by_cases c1616 : 1 ≤ (a0.length : Int)
  · replace h := (if_pos c1616).symm.trans h
    by_cases c1617 : (a0.length : Int) ≤ 10
    · replace h := (if_pos c1617).symm.trans h
      obtain ⟨t524, g1628, h⟩ := bindN h
      let C1628 := mkCon (slices_ContainsFunc_impl_Way_impl_Way_1.ok k a0 (fun x1619 => impl_areLevel_1.f x1619 a0) 155 (R 1 e65 z65 a0) (fun x1619 r h => impl_areLevel_1.ok x1619 a0 r h) impl_areLevel_1.go t524 g1628) slices_ContainsFunc_impl_Way_impl_Way_1.go
      cases h
      exact byRet MX Tryz.func149 1000 [.dec 6 true, .dec 11 true, .call C1628, .fin] (o1 (decide_eq_true c1616) (o1 (decide_eq_true c1617) (oa (sc_ C1628) on))) (by kernel_rfl)
    · replace h := (if_neg c1617).symm.trans h
      cases h
      exact byRet MX Tryz.func149 1000 [.dec 6 true, .dec 11 false, .fin] (o1 (decide_eq_true c1616) (o1 (decide_eq_false c1617) on)) (by kernel_rfl)
  · replace h := (if_neg c1616).symm.trans h
    cases h
    exact byRet MX Tryz.func149 1000 [.dec 6 false, .fin] (o1 (decide_eq_false c1616) on) (by kernel_rfl)

/-! ### impl_LevelWays: function 132 -/
def impl_LevelWays.f (k : Nat) (a0 : List S65) (a1 : Int) : Option Bool := (impl_areLevel.f k a0).bind fun t525 => if t525 = true then (if 0 ≤ a1 then (if 0 < (a0.length : Int) then (some (decide (a1 < (w64 ((((rdD z65 a0 0).f0).length : Int) - 1))))) else none) else (some false)) else (some false)
theorem impl_LevelWays.go : Callable Tryz.prog 132 := ⟨_, Tryz.func132, by kernel_rfl, rfl⟩
theorem impl_LevelWays.ok (k : Nat) (a0 : List S65) (a1 : Int) (r : Bool) (h : impl_LevelWays.f k a0 a1 = some r) : VCalls Tryz.prog 132 [.c (R 1 e65 z65 a0), .c (.sc (.int .i64 a1))] [.c (.p (.sc (.bool r)))] := by
  unfold impl_LevelWays.f at h
  refine VCalls.of (fn := Tryz.f132) (N := 21) Tryz.func132 rfl rfl (fun w0 => ?_)
  obtain ⟨t525, g1629, h⟩ := bindN h
  let C1629 := mkCon (impl_areLevel.ok k a0 t525 g1629) impl_areLevel.go
  by_cases c1630 : t525 = true
  · replace h := (if_pos c1630).symm.trans h
    by_cases c1631 : 0 ≤ a1
    · replace h := (if_pos c1631).symm.trans h
      obtain ⟨c1632, h⟩ := ifN h
      cases h
      exact byRet MX Tryz.func132 1000 [.call C1629, .dec 7 true, .dec 11 true, .fin] (oa (sc_ C1629) (o1 c1630 (o1 (decide_eq_true c1631) (o1 (by decide : (0 : Int) ≤ 0) (o1 c1632 on))))) (by kernel_rfl)
    · replace h := (if_neg c1631).symm.trans h
      cases h
      exact byRet MX Tryz.func132 1000 [.call C1629, .dec 7 true, .dec 11 false, .fin] (oa (sc_ C1629) (o1 c1630 (o1 (decide_eq_false c1631) on))) (by kernel_rfl)
  · replace h := (if_neg c1630).symm.trans h
    cases h
    exact byRet MX Tryz.func132 1000 [.call C1629, .dec 7 false, .fin] (oa (sc_ C1629) (o1 (eqf c1630) on)) (by kernel_rfl)

/-! ### impl_meets: function 133 -/
def impl_meets.h1T (a0 : List S65) (a1 : Int) (v529 : Int) (v530 : Int) : List (Nat × AV) := [(0, .t (.c (.p false (R 1 e65 z65 a0)))), (1, .t (.c (.p false (.sc (.int .i64 a1))))), (5, .t (.c (.p true (.sc (.int .i64 v529))))), (8, .t (.c (.p true (.sc (.int .i64 (a0.length : Int)))))), (9, .t (.c (.p true (.sc (.int .i64 v529))))), (15, .t (.c (.p true (.sc (.int .i64 (((a0.drop (0 : Int).toNat).take (v529.toNat - (0 : Int).toNat)).length : Int)))))), (16, .t (.c (.p true (.sc (.int .i64 v530)))))]
def impl_meets.h1H (a0 : List S65) (a1 : Int) (v529 : Int) (v530 : Int) : List (Nat × Content) := []
def impl_meets.x1T (a0 : List S65) (a1 : Int) (v529 : Int) : List (Nat × AV) := [(0, .t (.c (.p false (R 1 e65 z65 a0)))), (1, .t (.c (.p false (.sc (.int .i64 a1))))), (8, .t (.c (.p true (.sc (.int .i64 (a0.length : Int)))))), (9, .t (.c (.p true (.sc (.int .i64 v529)))))]
def impl_meets.x1H (a0 : List S65) (a1 : Int) (v529 : Int) : List (Nat × Content) := []
def impl_meets.l1 : Nat → List S65 → Int → Int → Int → Option (Bool ⊕ Unit)
  | 0, _, _, _, _ => none
  | kq + 1, a0, v529, a1, v530 => if v530 < (((a0.drop (0 : Int).toNat).take (v529.toNat - (0 : Int).toNat)).length : Int) then (if 0 ≤ a1 then (if a1 < (((rdD z65 a0 v529).f0).length : Int) then (if 0 ≤ v530 then (if v530 < (a0.length : Int) then (if a1 < (((rdD z65 a0 v530).f0).length : Int) then (if (rdD 0 ((rdD z65 a0 v529).f0) a1) = (rdD 0 ((rdD z65 a0 v530).f0) a1) then (some (.inl true)) else (impl_meets.l1 kq a0 v529 a1 (w64 (v530 + 1)))) else none) else none) else none) else none) else none) else (some (.inr ()))
def impl_meets.h0T (a0 : List S65) (a1 : Int) (v529 : Int) : List (Nat × AV) := [(0, .t (.c (.p false (R 1 e65 z65 a0)))), (1, .t (.c (.p false (.sc (.int .i64 a1))))), (8, .t (.c (.p true (.sc (.int .i64 (a0.length : Int)))))), (9, .t (.c (.p true (.sc (.int .i64 v529)))))]
def impl_meets.h0H (a0 : List S65) (a1 : Int) (v529 : Int) : List (Nat × Content) := []
def impl_meets.l0 : Nat → List S65 → Int → Int → Option Bool
  | 0, _, _, _ => none
  | kq + 1, a0, a1, v529 => if v529 < (a0.length : Int) then (if 0 ≤ v529 then (if v529 ≤ (a0.length : Int) then ((impl_meets.l1 kq a0 v529 a1 0).bind fun x1664 => match x1664 with | .inl r => some r | .inr y531 => (impl_meets.l0 kq a0 a1 (w64 (v529 + 1)))) else none) else none) else (some false)
def impl_meets.f (k : Nat) (a0 : List S65) (a1 : Int) : Option Bool := impl_meets.l0 k a0 a1 0
theorem impl_meets.go : Callable Tryz.prog 133 := ⟨_, Tryz.func133, by kernel_rfl, rfl⟩
theorem impl_meets.ok (k : Nat) (a0 : List S65) (a1 : Int) (r : Bool) (h : impl_meets.f k a0 a1 = some r) : VCalls Tryz.prog 133 [.c (R 1 e65 z65 a0), .c (.sc (.int .i64 a1))] [.c (.p (.sc (.bool r)))] := by
  unfold impl_meets.f at h
  refine VCalls.of (fn := Tryz.f133) (N := 38) Tryz.func133 rfl rfl (fun w0 => ?_)
  have H0 : ∀ (kq : Nat) (v529 : Int), impl_meets.l0 kq a0 a1 v529 = some r → AG Tryz.prog 133 38 [.c (.p (.sc (.bool r)))] w0 (headStk (codeOf Tryz.f133) 0) (mkFS (impl_meets.h0T a0 a1 v529) (impl_meets.h0H a0 a1 v529)) := by
    intro kq
    induction kq with
    | zero => intro v529 h; cases h
    | succ kq ih =>
      intro v529 h
      rw [impl_meets.l0] at h
      by_cases c1648 : v529 < (a0.length : Int)
      · replace h := (if_pos c1648).symm.trans h
        obtain ⟨c1649, h⟩ := ifN h
        obtain ⟨c1650, h⟩ := ifN h
        have H1 : ∀ (kq : Nat) (v530 : Int) (x : (Bool ⊕ Unit)), impl_meets.l1 kq a0 v529 a1 v530 = some x → (match x with | .inl r' => r' = r | .inr y531 => AG Tryz.prog 133 38 [.c (.p (.sc (.bool r)))] w0 (exitStk (codeOf Tryz.f133) 1) (mkFS (impl_meets.x1T a0 a1 v529) (impl_meets.x1H a0 a1 v529))) → AG Tryz.prog 133 38 [.c (.p (.sc (.bool r)))] w0 (headStk (codeOf Tryz.f133) 1) (mkFS (impl_meets.h1T a0 a1 v529 v530) (impl_meets.h1H a0 a1 v529 v530)) := by
          intro kq
          induction kq with
          | zero => intro v530 x h hx; cases h
          | succ kq ih =>
            intro v530 x h hx
            rw [impl_meets.l1] at h
            by_cases c1657 : v530 < (((a0.drop (0 : Int).toNat).take (v529.toNat - (0 : Int).toNat)).length : Int)
            · replace h := (if_pos c1657).symm.trans h
              obtain ⟨c1658, h⟩ := ifN h
              obtain ⟨c1659, h⟩ := ifN h
              obtain ⟨c1660, h⟩ := ifN h
              obtain ⟨c1661, h⟩ := ifN h
              obtain ⟨c1662, h⟩ := ifN h
              by_cases c1663 : (rdD 0 ((rdD z65 a0 v529).f0) a1) = (rdD 0 ((rdD z65 a0 v530).f0) a1)
              · replace h := (if_pos c1663).symm.trans h
                cases h
                subst hx
                exact byRet MX Tryz.func133 1000 [.b true, .b true, .fin] (o1 (decide_eq_true c1657) (o1 c1649 (o1 c1648 (o1 c1658 (o1 c1659 (o1 c1660 (o1 c1661 (o1 c1658 (o1 c1662 (o1 (decide_eq_true c1663) on)))))))))) (by kernel_rfl)
              · replace h := (if_neg c1663).symm.trans h
                exact byHead MX Tryz.func133 1000 [.b true, .b false, .fin] (o1 (decide_eq_true c1657) (o1 c1649 (o1 c1648 (o1 c1658 (o1 c1659 (o1 c1660 (o1 c1661 (o1 c1658 (o1 c1662 (o1 (decide_eq_false c1663) on)))))))))) (ih (w64 (v530 + 1)) _ h hx) (by kernel_rfl)
            · replace h := (if_neg c1657).symm.trans h
              cases h
              exact byStop MX Tryz.func133 1000 [.b false, .fin] (o1 (decide_eq_false c1657) on) hx (by kernel_rfl)
        obtain ⟨x1664, g1664, h⟩ := bindN h
        cases x1664 with
        | inl r' =>
          exact byHead MX Tryz.func133 1000 [.b true, .cst 14 (R 1 e65 z65 ((a0.drop (0 : Int).toNat).take (v529.toNat - (0 : Int).toNat))), .fin] (o1 (decide_eq_true c1648) (o1 (by decide : (0 : Int) ≤ 0) (o1 c1649 (o1 c1650 (o1 (VE.cut (z := 1) (e := e65) (d := z65) a0 (n := a0.length) (lo := 0) (hi := v529) rfl (by decide : (0 : Int) ≤ 0) c1649 c1650) on))))) (H1 kq 0 _ g1664 (Option.some.inj h)) (by kernel_rfl)
        | inr y531 =>
          refine byHead MX Tryz.func133 1000 [.b true, .cst 14 (R 1 e65 z65 ((a0.drop (0 : Int).toNat).take (v529.toNat - (0 : Int).toNat))), .fin] (o1 (decide_eq_true c1648) (o1 (by decide : (0 : Int) ≤ 0) (o1 c1649 (o1 c1650 (o1 (VE.cut (z := 1) (e := e65) (d := z65) a0 (n := a0.length) (lo := 0) (hi := v529) rfl (by decide : (0 : Int) ≤ 0) c1649 c1650) on))))) (H1 kq 0 _ g1664 ?_) (by kernel_rfl)
          show AG Tryz.prog 133 38 [.c (.p (.sc (.bool r)))] w0 (exitStk (codeOf Tryz.f133) 1) (mkFS (impl_meets.x1T a0 a1 v529) (impl_meets.x1H a0 a1 v529))
          exact byHead MX Tryz.func133 1000 [.fin] on (ih (w64 (v529 + 1)) h) (by kernel_rfl)
      · replace h := (if_neg c1648).symm.trans h
        cases h
        exact byRet MX Tryz.func133 1000 [.b false, .fin, .fin] (o1 (decide_eq_false c1648) on) (by kernel_rfl)
  exact byHead MX Tryz.func133 1000 [.fin] on (H0 k 0 h) (by kernel_rfl)

/-! ### impl_MeetAt: function 97 -/
def impl_MeetAt.f (k : Nat) (a0 : List S65) (a1 : Int) : Option Bool := (impl_LevelWays.f k a0 a1).bind fun t526 => if t526 = true then ((impl_meets.f k a0 a1).bind fun t532 => if t532 = true then (some true) else ((impl_meets.f k a0 (w64 (a1 + 1))).bind fun t533 => some t533)) else (some false)
theorem impl_MeetAt.go : Callable Tryz.prog 97 := ⟨_, Tryz.func97, by kernel_rfl, rfl⟩
theorem impl_MeetAt.ok (k : Nat) (a0 : List S65) (a1 : Int) (r : Bool) (h : impl_MeetAt.f k a0 a1 = some r) : VCalls Tryz.prog 97 [.c (R 1 e65 z65 a0), .c (.sc (.int .i64 a1))] [.c (.p (.sc (.bool r)))] := by
  unfold impl_MeetAt.f at h
  refine VCalls.of (fn := Tryz.f97) (N := 19) Tryz.func97 rfl rfl (fun w0 => ?_)
  obtain ⟨t526, g1633, h⟩ := bindN h
  let C1633 := mkCon (impl_LevelWays.ok k a0 a1 t526 g1633) impl_LevelWays.go
  by_cases c1634 : t526 = true
  · replace h := (if_pos c1634).symm.trans h
    obtain ⟨t532, g1665, h⟩ := bindN h
    let C1665 := mkCon (impl_meets.ok k a0 a1 t532 g1665) impl_meets.go
    by_cases c1666 : t532 = true
    · replace h := (if_pos c1666).symm.trans h
      cases h
      exact byRet MX Tryz.func97 1000 [.call C1633, .dec 8 true, .call C1665, .dec 12 true, .fin] (oa (sc_ C1633) (o1 c1634 (oa (sc_ C1665) (o1 c1666 on)))) (by kernel_rfl)
    · replace h := (if_neg c1666).symm.trans h
      obtain ⟨t533, g1667, h⟩ := bindN h
      let C1667 := mkCon (impl_meets.ok k a0 (w64 (a1 + 1)) t533 g1667) impl_meets.go
      cases h
      exact byRet MX Tryz.func97 1000 [.call C1633, .dec 8 true, .call C1665, .dec 12 false, .call C1667, .fin] (oa (sc_ C1633) (o1 c1634 (oa (sc_ C1665) (o1 (eqf c1666) (oa (sc_ C1667) on))))) (by kernel_rfl)
  · replace h := (if_neg c1634).symm.trans h
    cases h
    exact byRet MX Tryz.func97 1000 [.call C1633, .dec 8 false, .fin] (oa (sc_ C1633) (o1 (eqf c1634) on)) (by kernel_rfl)

/-! ### impl_PlanFault_1: function 96 -/
def impl_PlanFault_1.f (k : Nat) (a0 : Int) (a1 : S45) : Option Bool := (impl_MeetAt.f k a1.f2 a0).bind fun t534 => some t534
theorem impl_PlanFault_1.go : Callable Tryz.prog 96 := ⟨_, Tryz.func96, by kernel_rfl, rfl⟩
theorem impl_PlanFault_1.ok (k : Nat) (a0 : Int) (a1 : S45) (r : Bool) (h : impl_PlanFault_1.f k a0 a1 = some r) : VCalls Tryz.prog 96 [.c (.sc (.int .i64 a0)), .ptr [.sc (.int .i64 a1.f0), .sc (.int .i64 a1.f1), R 1 e65 z65 a1.f2]] [.c (.p (.sc (.bool r)))] := by
  unfold impl_PlanFault_1.f at h
  refine VCalls.of (fn := Tryz.f96) (N := 8) Tryz.func96 rfl rfl (fun w0 => ?_)
  obtain ⟨t534, g1668, h⟩ := bindN h
  let C1668 := mkCon (impl_MeetAt.ok k a1.f2 a0 t534 g1668) impl_MeetAt.go
  cases h
  exact byRet MX Tryz.func96 1000 [.call C1668, .fin] (oa (sc_ C1668) on) (by kernel_rfl)

/-! ### impl_someTime_3: function 95 -/
def impl_someTime_3.h0T (a0 : Int) (gi1 : FuncId) (u1_0_0 : V) (u1_0_1 : V) (u1_0_2 : V) (v536 : Int) : List (Nat × AV) := [(0, .t (.c (.p false (.sc (.int .i64 a0))))), (1, .bfn gi1 [[u1_0_0, u1_0_1, u1_0_2]]), (5, .t (.c (.p true (.sc (.int .i64 v536)))))]
def impl_someTime_3.h0H (a0 : Int) (gi1 : FuncId) (u1_0_0 : V) (u1_0_1 : V) (u1_0_2 : V) (v536 : Int) : List (Nat × Content) := []
def impl_someTime_3.l0 : Nat → Int → (Int → Option Bool) → Int → Option Bool
  | 0, _, _, _ => none
  | kq + 1, a0, p1, v536 => if v536 < a0 then ((p1 v536).bind fun t537 => if t537 = true then (some true) else (impl_someTime_3.l0 kq a0 p1 (w64 (v536 + 1)))) else (some false)
def impl_someTime_3.f (k : Nat) (a0 : Int) (p1 : Int → Option Bool) : Option Bool := impl_someTime_3.l0 k a0 p1 0
theorem impl_someTime_3.go : Callable Tryz.prog 95 := ⟨_, Tryz.func95, by kernel_rfl, rfl⟩
theorem impl_someTime_3.ok (k : Nat) (a0 : Int) (p1 : Int → Option Bool) (gi1 : FuncId) (u1_0_0 u1_0_1 u1_0_2 : V) (hp1 : ∀ x0 r, p1 x0 = some r → VCalls Tryz.prog gi1 [.c (.sc (.int .i64 x0)), .ptr [u1_0_0, u1_0_1, u1_0_2]] [.c (.p (.sc (.bool r)))]) (go1 : Callable Tryz.prog gi1) (r : Bool) (h : impl_someTime_3.f k a0 p1 = some r) : VCalls Tryz.prog 95 [.c (.sc (.int .i64 a0)), .fn gi1 [[u1_0_0, u1_0_1, u1_0_2]]] [.c (.p (.sc (.bool r)))] := by
  unfold impl_someTime_3.f at h
  refine VCalls.of (fn := Tryz.f95) (N := 14) Tryz.func95 rfl rfl (fun w0 => ?_)
  have H0 : ∀ (kq : Nat) (v536 : Int), impl_someTime_3.l0 kq a0 p1 v536 = some r → AG Tryz.prog 95 14 [.c (.p (.sc (.bool r)))] w0 (headStk (codeOf Tryz.f95) 0) (mkFS (impl_someTime_3.h0T a0 gi1 u1_0_0 u1_0_1 u1_0_2 v536) (impl_someTime_3.h0H a0 gi1 u1_0_0 u1_0_1 u1_0_2 v536)) := by
    intro kq
    induction kq with
    | zero => intro v536 h; cases h
    | succ kq ih =>
      intro v536 h
      rw [impl_someTime_3.l0] at h
      by_cases c1673 : v536 < a0
      · replace h := (if_pos c1673).symm.trans h
        obtain ⟨t537, g1674, h⟩ := bindN h
        let C1674 := mkCon (hp1 v536 t537 g1674) go1
        by_cases c1675 : t537 = true
        · replace h := (if_pos c1675).symm.trans h
          cases h
          exact byRet MX Tryz.func95 1000 [.b true, .call C1674, .b true, .fin] (o1 (decide_eq_true c1673) (oa (sc_ C1674) (o1 c1675 on))) (by kernel_rfl)
        · replace h := (if_neg c1675).symm.trans h
          exact byHead MX Tryz.func95 1000 [.b true, .call C1674, .b false, .fin] (o1 (decide_eq_true c1673) (oa (sc_ C1674) (o1 (eqf c1675) on))) (ih (w64 (v536 + 1)) h) (by kernel_rfl)
      · replace h := (if_neg c1673).symm.trans h
        cases h
        exact byRet MX Tryz.func95 1000 [.b false, .fin, .fin] (o1 (decide_eq_false c1673) on) (by kernel_rfl)
  exact byHead MX Tryz.func95 1000 [.fin] on (H0 k 0 h) (by kernel_rfl)

/-! ### impl_nextOf_1: function 150 -/
def impl_nextOf_1.f (a0 : S65) (a1 : Int) (a2 : S65) : Option Bool := if 0 ≤ a1 then (if a1 < (a0.f0.length : Int) then (if 0 ≤ (w64 (a1 + 1)) then (if (w64 (a1 + 1)) < (a2.f0.length : Int) then (some (decide ((rdD 0 a0.f0 a1) = (rdD 0 a2.f0 (w64 (a1 + 1)))))) else none) else none) else none) else none
theorem impl_nextOf_1.go : Callable Tryz.prog 150 := ⟨_, Tryz.func150, by kernel_rfl, rfl⟩
theorem impl_nextOf_1.ok (a0 : S65) (a1 : Int) (a2 : S65) (r : Bool) (h : impl_nextOf_1.f a0 a1 a2 = some r) : VCalls Tryz.prog 150 [.agg (e65 a0), .ptr [.sc (.int .i64 a1)], .ptr [R 1 (eI .i64) 0 a2.f0]] [.c (.p (.sc (.bool r)))] := by
  unfold impl_nextOf_1.f at h
  refine VCalls.of (fn := Tryz.f150) (N := 17) Tryz.func150 rfl rfl (fun w0 => ?_)
  obtain ⟨c1683, h⟩ := ifN h
  obtain ⟨c1684, h⟩ := ifN h
  obtain ⟨c1685, h⟩ := ifN h
  obtain ⟨c1686, h⟩ := ifN h
  cases h
  exact byRet MX Tryz.func150 1000 [.fin] (o1 c1683 (o1 c1684 (o1 c1685 (o1 c1686 on)))) (by kernel_rfl)

/-! ### slices_IndexFunc_impl_Way_impl_Way_1_1: function 141 -/
def slices_IndexFunc_impl_Way_impl_Way_1_1.h0T (a0 : List S65) (gi1 : FuncId) (u1_0_0 : V) (u1_1_0 : V) (v542 : Int) : List (Nat × AV) := [(0, .t (.c (.p false (R 1 e65 z65 a0)))), (1, .bfn gi1 [[u1_0_0], [u1_1_0]]), (7, .t (.c (.p true (.sc (.int .i64 (a0.length : Int)))))), (8, .t (.c (.p true (.sc (.int .i64 v542)))))]
def slices_IndexFunc_impl_Way_impl_Way_1_1.h0H (a0 : List S65) (gi1 : FuncId) (u1_0_0 : V) (u1_1_0 : V) (v542 : Int) : List (Nat × Content) := []
def slices_IndexFunc_impl_Way_impl_Way_1_1.l0 : Nat → List S65 → (S65 → Option Bool) → Int → Option Int
  | 0, _, _, _ => none
  | kq + 1, a0, p1, v542 => if v542 < (a0.length : Int) then (if 0 ≤ v542 then ((p1 (rdD z65 a0 v542)).bind fun t543 => if t543 = true then (some v542) else (slices_IndexFunc_impl_Way_impl_Way_1_1.l0 kq a0 p1 (w64 (v542 + 1)))) else none) else (some (-1))
def slices_IndexFunc_impl_Way_impl_Way_1_1.f (k : Nat) (a0 : List S65) (p1 : S65 → Option Bool) : Option Int := slices_IndexFunc_impl_Way_impl_Way_1_1.l0 k a0 p1 0
theorem slices_IndexFunc_impl_Way_impl_Way_1_1.go : Callable Tryz.prog 141 := ⟨_, Tryz.func141, by kernel_rfl, rfl⟩
theorem slices_IndexFunc_impl_Way_impl_Way_1_1.ok (k : Nat) (a0 : List S65) (p1 : S65 → Option Bool) (gi1 : FuncId) (u1_0_0 u1_1_0 : V) (hp1 : ∀ x0 r, p1 x0 = some r → VCalls Tryz.prog gi1 [.agg (e65 x0), .ptr [u1_0_0], .ptr [u1_1_0]] [.c (.p (.sc (.bool r)))]) (go1 : Callable Tryz.prog gi1) (r : Int) (h : slices_IndexFunc_impl_Way_impl_Way_1_1.f k a0 p1 = some r) : VCalls Tryz.prog 141 [.c (R 1 e65 z65 a0), .fn gi1 [[u1_0_0], [u1_1_0]]] [.c (.p (.sc (.int .i64 r)))] := by
  unfold slices_IndexFunc_impl_Way_impl_Way_1_1.f at h
  refine VCalls.of (fn := Tryz.f141) (N := 19) Tryz.func141 rfl rfl (fun w0 => ?_)
  have H0 : ∀ (kq : Nat) (v542 : Int), slices_IndexFunc_impl_Way_impl_Way_1_1.l0 kq a0 p1 v542 = some r → AG Tryz.prog 141 19 [.c (.p (.sc (.int .i64 r)))] w0 (headStk (codeOf Tryz.f141) 0) (mkFS (slices_IndexFunc_impl_Way_impl_Way_1_1.h0T a0 gi1 u1_0_0 u1_1_0 v542) (slices_IndexFunc_impl_Way_impl_Way_1_1.h0H a0 gi1 u1_0_0 u1_1_0 v542)) := by
    intro kq
    induction kq with
    | zero => intro v542 h; cases h
    | succ kq ih =>
      intro v542 h
      rw [slices_IndexFunc_impl_Way_impl_Way_1_1.l0] at h
      by_cases c1691 : v542 < (a0.length : Int)
      · replace h := (if_pos c1691).symm.trans h
        obtain ⟨c1692, h⟩ := ifN h
        obtain ⟨t543, g1693, h⟩ := bindN h
        let C1693 := mkCon (hp1 (rdD z65 a0 v542) t543 g1693) go1
        by_cases c1694 : t543 = true
        · replace h := (if_pos c1694).symm.trans h
          cases h
          exact byRet MX Tryz.func141 1000 [.b true, .call C1693, .b true, .fin] (o1 (decide_eq_true c1691) (o1 c1692 (o1 c1691 (oa (sc_ C1693) (o1 c1694 on))))) (by kernel_rfl)
        · replace h := (if_neg c1694).symm.trans h
          exact byHead MX Tryz.func141 1000 [.b true, .call C1693, .b false, .fin] (o1 (decide_eq_true c1691) (o1 c1692 (o1 c1691 (oa (sc_ C1693) (o1 (eqf c1694) on))))) (ih (w64 (v542 + 1)) h) (by kernel_rfl)
      · replace h := (if_neg c1691).symm.trans h
        cases h
        exact byRet MX Tryz.func141 1000 [.b false, .fin, .fin] (o1 (decide_eq_false c1691) on) (by kernel_rfl)
  exact byHead MX Tryz.func141 1000 [.fin] on (H0 k 0 h) (by kernel_rfl)

/-! ### impl_nextOf: function 134 -/
def impl_nextOf.h0T (a0 : List S65) (v549 : Int) (a1 : Int) (v548 : List Int) : List (Nat × AV) := [(0, .t (.c (.p false (R 1 e65 z65 a0)))), (3, .ptr 192 0), (5, .t (.c (.h 320320))), (17, .t (.c (.p false (R 1 e65 z65 a0)))), (18, .t (.c (.p true (.sc (.int .i64 (a0.length : Int)))))), (19, .t (.c (.p true (.sc (.int .i64 v549)))))]
def impl_nextOf.h0H (a0 : List S65) (v549 : Int) (a1 : Int) (v548 : List Int) : List (Nat × Content) := [(192, .box 3 [.p false (.sc (.int .i64 a1))]), (320320, .row 3 1 v548.length (fun j => (eI .i64) (v548.getD j 0)) true)]
def impl_nextOf.l0 : Nat → List S65 → Int → List Int → Int → Option (List Int)
  | 0, _, _, _, _ => none
  | kq + 1, a0, a1, v548, v549 => if v549 < (a0.length : Int) then (if 0 ≤ v549 then ((slices_IndexFunc_impl_Way_impl_Way_1_1.f kq a0 (fun x1708 => impl_nextOf_1.f x1708 a1 (rdD z65 a0 v549))).bind fun t550 => if (v548.length + 1) * 8 ≤ 140737488355328 then (impl_nextOf.l0 kq a0 a1 (v548 ++ [t550]) (w64 (v549 + 1))) else none) else none) else (some v548)
def impl_nextOf.f (k : Nat) (a0 : List S65) (a1 : Int) : Option (List Int) := (impl_LevelWays.f k a0 a1).bind fun t539 => if t539 = true then ((impl_MeetAt.f k a0 a1).bind fun t540 => if t540 = true then (some ([] : List Int)) else (impl_nextOf.l0 k a0 a1 ([] : List Int) 0)) else (some ([] : List Int))
theorem impl_nextOf.go : Callable Tryz.prog 134 := ⟨_, Tryz.func134, by kernel_rfl, rfl⟩
theorem impl_nextOf.ok (k : Nat) (a0 : List S65) (a1 : Int) (r : (List Int)) (h : impl_nextOf.f k a0 a1 = some r) : VCalls Tryz.prog 134 [.c (R 1 e65 z65 a0), .c (.sc (.int .i64 a1))] [.c (.own 3 1 r.length (fun j => (eI .i64) (r.getD j 0)))] := by
  unfold impl_nextOf.f at h
  refine VCalls.of (fn := Tryz.f134) (N := 31) Tryz.func134 rfl rfl (fun w0 => ?_)
  obtain ⟨t539, g1678, h⟩ := bindN h
  let C1678 := mkCon (impl_LevelWays.ok k a0 a1 t539 g1678) impl_LevelWays.go
  by_cases c1679 : t539 = true
  · replace h := (if_pos c1679).symm.trans h
    obtain ⟨t540, g1680, h⟩ := bindN h
    let C1680 := mkCon (impl_MeetAt.ok k a0 a1 t540 g1680) impl_MeetAt.go
    by_cases c1681 : t540 = true
    · replace h := (if_pos c1681).symm.trans h
      cases h
      exact byRet MX Tryz.func134 1000 [.call C1678, .dec 12 false, .call C1680, .b true, .fin, .nil 4 384256 3 1, orow 384256 (eI .i64) 0 ([] : List Int)] (oa (sc_ C1678) (o1 (bnf c1679) (oa (sc_ C1680) (o1 c1681 (o1 (GE.nil (eI .i64) 0) on))))) (by kernel_rfl)
    · replace h := (if_neg c1681).symm.trans h
      have H0 : ∀ (kq : Nat) (v548 : List Int) (v549 : Int), impl_nextOf.l0 kq a0 a1 v548 v549 = some r → AG Tryz.prog 134 31 [.c (.own 3 1 r.length (fun j => (eI .i64) (r.getD j 0)))] w0 (headStk (codeOf Tryz.f134) 0) (mkFS (impl_nextOf.h0T a0 v549 a1 v548) (impl_nextOf.h0H a0 v549 a1 v548)) := by
        intro kq
        induction kq with
        | zero => intro v548 v549 h; cases h
        | succ kq ih =>
          intro v548 v549 h
          rw [impl_nextOf.l0] at h
          by_cases c1706 : v549 < (a0.length : Int)
          · replace h := (if_pos c1706).symm.trans h
            obtain ⟨c1707, h⟩ := ifN h
            obtain ⟨t550, g1709, h⟩ := bindN h
            let C1709 := mkCon (slices_IndexFunc_impl_Way_impl_Way_1_1.ok kq a0 (fun x1708 => impl_nextOf_1.f x1708 a1 (rdD z65 a0 v549)) 150 (.sc (.int .i64 a1)) (R 1 (eI .i64) 0 ((rdD z65 a0 v549).f0)) (fun x1708 r h => impl_nextOf_1.ok x1708 a1 (rdD z65 a0 v549) r h) impl_nextOf_1.go t550 g1709) slices_IndexFunc_impl_Way_impl_Way_1_1.go
            obtain ⟨c1710, h⟩ := ifN h
            exact byHead MX Tryz.func134 1000 [.b true, .call C1709, rowe 27 (eI .i64) 0 ([t550]), .aft 28, orow 320320 (eI .i64) 0 (v548 ++ [t550]), .fin] (o1 (decide_eq_true c1706) (o1 c1707 (o1 c1706 (oa (sc_ C1709) (o1 (GE.lit 1 (eI .i64) 0 [t550] (by intro x; rfl)) (o1 c1710 (o1 (GE.app (e := (eI .i64)) (d := 0) v548 ([t550]) rfl (fun _ _ => CE.refl _) rfl) on))))))) (ih (v548 ++ [t550]) (w64 (v549 + 1)) h) (by kernel_rfl)
          · replace h := (if_neg c1706).symm.trans h
            cases h
            exact byRet MX Tryz.func134 1000 [.b false, .fin, .fin] (o1 (decide_eq_false c1706) on) (by kernel_rfl)
      exact byHead MX Tryz.func134 1000 [.call C1678, .dec 12 false, .call C1680, .b false, .fin, .nil 5 320320 3 1, orow 320320 (eI .i64) 0 ([] : List Int)] (oa (sc_ C1678) (o1 (bnf c1679) (oa (sc_ C1680) (o1 (eqf c1681) (o1 (GE.nil (eI .i64) 0) on))))) (H0 k ([] : List Int) 0 h) (by kernel_rfl)
  · replace h := (if_neg c1679).symm.trans h
    cases h
    exact byRet MX Tryz.func134 1000 [.call C1678, .dec 12 true, .b true, .fin, .nil 4 384256 3 1, orow 384256 (eI .i64) 0 ([] : List Int)] (oa (sc_ C1678) (o1 (bnt (eqf c1679)) (o1 (rfl : true = true) (o1 (GE.nil (eI .i64) 0) on)))) (by kernel_rfl)

/-! ### impl_ringOf: function 135 -/
def impl_ringOf.h0T (a0 : List Int) (a1 : Int) (v553 : Int) (v554 : Int) : List (Nat × AV) := [(0, .t (.c (.p false (R 1 (eI .i64) 0 a0)))), (1, .t (.c (.p false (.sc (.int .i64 a1))))), (5, .t (.c (.p true (.sc (.int .i64 v553))))), (6, .t (.c (.p false (.sc (.int .i64 v554)))))]
def impl_ringOf.h0H (a0 : List Int) (a1 : Int) (v553 : Int) (v554 : Int) : List (Nat × Content) := []
def impl_ringOf.l0 : Nat → Int → List Int → Int → Int → Option Int
  | 0, _, _, _, _ => none
  | kq + 1, a1, a0, v553, v554 => if v554 = a1 then (some v553) else (if v554 < 0 then (some 0) else (if (a0.length : Int) < v553 then (some 0) else (if 0 ≤ v554 then (if v554 < (a0.length : Int) then (impl_ringOf.l0 kq a1 a0 (w64 (v553 + 1)) (rdD 0 a0 v554)) else none) else none)))
def impl_ringOf.f (k : Nat) (a0 : List Int) (a1 : Int) : Option Int := if 0 ≤ a1 then (if a1 < (a0.length : Int) then (impl_ringOf.l0 k a1 a0 1 (rdD 0 a0 a1)) else none) else none
theorem impl_ringOf.go : Callable Tryz.prog 135 := ⟨_, Tryz.func135, by kernel_rfl, rfl⟩
theorem impl_ringOf.ok (k : Nat) (a0 : List Int) (a1 : Int) (r : Int) (h : impl_ringOf.f k a0 a1 = some r) : VCalls Tryz.prog 135 [.c (R 1 (eI .i64) 0 a0), .c (.sc (.int .i64 a1))] [.c (.p (.sc (.int .i64 r)))] := by
  unfold impl_ringOf.f at h
  refine VCalls.of (fn := Tryz.f135) (N := 29) Tryz.func135 rfl rfl (fun w0 => ?_)
  obtain ⟨c1713, h⟩ := ifN h
  obtain ⟨c1714, h⟩ := ifN h
  have H0 : ∀ (kq : Nat) (v553 : Int) (v554 : Int), impl_ringOf.l0 kq a1 a0 v553 v554 = some r → AG Tryz.prog 135 29 [.c (.p (.sc (.int .i64 r)))] w0 (headStk (codeOf Tryz.f135) 0) (mkFS (impl_ringOf.h0T a0 a1 v553 v554) (impl_ringOf.h0H a0 a1 v553 v554)) := by
    intro kq
    induction kq with
    | zero => intro v553 v554 h; cases h
    | succ kq ih =>
      intro v553 v554 h
      rw [impl_ringOf.l0] at h
      by_cases c1725 : v554 = a1
      · replace h := (if_pos c1725).symm.trans h
        cases h
        exact byRet MX Tryz.func135 1000 [.b false, .fin, .fin] (o1 (bnf (decide_eq_true c1725)) on) (by kernel_rfl)
      · replace h := (if_neg c1725).symm.trans h
        by_cases c1726 : v554 < 0
        · replace h := (if_pos c1726).symm.trans h
          cases h
          exact byRet MX Tryz.func135 1000 [.b true, .dec 20 true, .b true, .fin] (o1 (bnt (decide_eq_false c1725)) (o1 (decide_eq_true c1726) (o1 (rfl : true = true) on))) (by kernel_rfl)
        · replace h := (if_neg c1726).symm.trans h
          by_cases c1727 : (a0.length : Int) < v553
          · replace h := (if_pos c1727).symm.trans h
            cases h
            exact byRet MX Tryz.func135 1000 [.b true, .dec 20 false, .b true, .fin] (o1 (bnt (decide_eq_false c1725)) (o1 (decide_eq_false c1726) (o1 (decide_eq_true c1727) on))) (by kernel_rfl)
          · replace h := (if_neg c1727).symm.trans h
            obtain ⟨c1728, h⟩ := ifN h
            obtain ⟨c1729, h⟩ := ifN h
            exact byHead MX Tryz.func135 1000 [.b true, .dec 20 false, .b false, .fin] (o1 (bnt (decide_eq_false c1725)) (o1 (decide_eq_false c1726) (o1 (decide_eq_false c1727) (o1 c1728 (o1 c1729 on))))) (ih (w64 (v553 + 1)) (rdD 0 a0 v554) h) (by kernel_rfl)
  exact byHead MX Tryz.func135 1000 [.fin] (o1 c1713 (o1 c1714 on)) (H0 k 1 (rdD 0 a0 a1) h) (by kernel_rfl)

/-! ### impl_SwapsAt: function 99 -/
def impl_SwapsAt.h0T (v559 : Int) (t551 : List Int) (v558 : Int) : List (Nat × AV) := [(5, .t (.c (.h 640))), (6, .t (.c (.p true (.sc (.int .i64 v559))))), (12, .t (.c (.p true (.sc (.int .i64 (t551.length : Int)))))), (13, .t (.c (.p true (.sc (.int .i64 v558)))))]
def impl_SwapsAt.h0H (v559 : Int) (t551 : List Int) (v558 : Int) : List (Nat × Content) := [(640, .row 3 1 t551.length (fun j => (eI .i64) (t551.getD j 0)) true)]
def impl_SwapsAt.l0 : Nat → List Int → Int → Int → Option Int
  | 0, _, _, _ => none
  | kq + 1, t551, v558, v559 => if v558 < (t551.length : Int) then ((impl_ringOf.f kq t551 v558).bind fun t560 => if t560 = 2 then (impl_SwapsAt.l0 kq t551 (w64 (v558 + 1)) (w64 (v559 + 1))) else (impl_SwapsAt.l0 kq t551 (w64 (v558 + 1)) v559)) else (some (w64 (v559.tdiv 2)))
def impl_SwapsAt.f (k : Nat) (a0 : List S65) (a1 : Int) : Option Int := (impl_nextOf.f k a0 a1).bind fun t551 => impl_SwapsAt.l0 k t551 0 0
theorem impl_SwapsAt.go : Callable Tryz.prog 99 := ⟨_, Tryz.func99, by kernel_rfl, rfl⟩
theorem impl_SwapsAt.ok (k : Nat) (a0 : List S65) (a1 : Int) (r : Int) (h : impl_SwapsAt.f k a0 a1 = some r) : VCalls Tryz.prog 99 [.c (R 1 e65 z65 a0), .c (.sc (.int .i64 a1))] [.c (.p (.sc (.int .i64 r)))] := by
  unfold impl_SwapsAt.f at h
  refine VCalls.of (fn := Tryz.f99) (N := 25) Tryz.func99 rfl rfl (fun w0 => ?_)
  obtain ⟨t551, g1711, h⟩ := bindN h
  let C1711 := mkCon (impl_nextOf.ok k a0 a1 t551 g1711) impl_nextOf.go
  have H0 : ∀ (kq : Nat) (v558 : Int) (v559 : Int), impl_SwapsAt.l0 kq t551 v558 v559 = some r → AG Tryz.prog 99 25 [.c (.p (.sc (.int .i64 r)))] w0 (headStk (codeOf Tryz.f99) 0) (mkFS (impl_SwapsAt.h0T v559 t551 v558) (impl_SwapsAt.h0H v559 t551 v558)) := by
    intro kq
    induction kq with
    | zero => intro v558 v559 h; cases h
    | succ kq ih =>
      intro v558 v559 h
      rw [impl_SwapsAt.l0] at h
      by_cases c1735 : v558 < (t551.length : Int)
      · replace h := (if_pos c1735).symm.trans h
        obtain ⟨t560, g1736, h⟩ := bindN h
        let C1736 := mkCon (impl_ringOf.ok kq t551 v558 t560 g1736) impl_ringOf.go
        by_cases c1737 : t560 = 2
        · replace h := (if_pos c1737).symm.trans h
          exact byHead MX Tryz.func99 1000 [.b true, .call C1736, .b true, .fin] (o1 (decide_eq_true c1735) (oa (sc_ C1736) (o1 (decide_eq_true c1737) on))) (ih (w64 (v558 + 1)) (w64 (v559 + 1)) h) (by kernel_rfl)
        · replace h := (if_neg c1737).symm.trans h
          exact byHead MX Tryz.func99 1000 [.b true, .call C1736, .b false, .fin] (o1 (decide_eq_true c1735) (oa (sc_ C1736) (o1 (decide_eq_false c1737) on))) (ih (w64 (v558 + 1)) v559 h) (by kernel_rfl)
      · replace h := (if_neg c1735).symm.trans h
        cases h
        exact byRet MX Tryz.func99 1000 [.b false, .fin, .fin] (o1 (decide_eq_false c1735) (o1 (by decide : (2 : Int) ≠ 0) on)) (by kernel_rfl)
  exact byHead MX Tryz.func99 1000 [.call C1711, .fin] (oa (sc_ C1711) on) (H0 k 0 0 h) (by kernel_rfl)

/-! ### impl_PlanFault_2: function 98 -/
def impl_PlanFault_2.f (k : Nat) (a0 : Int) (a1 : S45) : Option Bool := (impl_SwapsAt.f k a1.f2 a0).bind fun t561 => some (!decide (t561 = 0))
theorem impl_PlanFault_2.go : Callable Tryz.prog 98 := ⟨_, Tryz.func98, by kernel_rfl, rfl⟩
theorem impl_PlanFault_2.ok (k : Nat) (a0 : Int) (a1 : S45) (r : Bool) (h : impl_PlanFault_2.f k a0 a1 = some r) : VCalls Tryz.prog 98 [.c (.sc (.int .i64 a0)), .ptr [.sc (.int .i64 a1.f0), .sc (.int .i64 a1.f1), R 1 e65 z65 a1.f2]] [.c (.p (.sc (.bool r)))] := by
  unfold impl_PlanFault_2.f at h
  refine VCalls.of (fn := Tryz.f98) (N := 9) Tryz.func98 rfl rfl (fun w0 => ?_)
  obtain ⟨t561, g1738, h⟩ := bindN h
  let C1738 := mkCon (impl_SwapsAt.ok k a1.f2 a0 t561 g1738) impl_SwapsAt.go
  cases h
  exact byRet MX Tryz.func98 1000 [.call C1738, .fin] (oa (sc_ C1738) on) (by kernel_rfl)

/-! ### impl_RingsAt: function 101 -/
def impl_RingsAt.h0T (v568 : Int) (t563 : List Int) (v567 : Int) : List (Nat × AV) := [(5, .t (.c (.h 640))), (6, .t (.c (.p true (.sc (.int .i64 v568))))), (12, .t (.c (.p true (.sc (.int .i64 (t563.length : Int)))))), (13, .t (.c (.p true (.sc (.int .i64 v567)))))]
def impl_RingsAt.h0H (v568 : Int) (t563 : List Int) (v567 : Int) : List (Nat × Content) := [(640, .row 3 1 t563.length (fun j => (eI .i64) (t563.getD j 0)) true)]
def impl_RingsAt.l0 : Nat → List Int → Int → Int → Option Int
  | 0, _, _, _ => none
  | kq + 1, t563, v567, v568 => if v567 < (t563.length : Int) then ((impl_ringOf.f kq t563 v567).bind fun t569 => if 2 < t569 then (impl_RingsAt.l0 kq t563 (w64 (v567 + 1)) (w64 (v568 + 1))) else (impl_RingsAt.l0 kq t563 (w64 (v567 + 1)) v568)) else (some v568)
def impl_RingsAt.f (k : Nat) (a0 : List S65) (a1 : Int) : Option Int := (impl_nextOf.f k a0 a1).bind fun t563 => impl_RingsAt.l0 k t563 0 0
theorem impl_RingsAt.go : Callable Tryz.prog 101 := ⟨_, Tryz.func101, by kernel_rfl, rfl⟩
theorem impl_RingsAt.ok (k : Nat) (a0 : List S65) (a1 : Int) (r : Int) (h : impl_RingsAt.f k a0 a1 = some r) : VCalls Tryz.prog 101 [.c (R 1 e65 z65 a0), .c (.sc (.int .i64 a1))] [.c (.p (.sc (.int .i64 r)))] := by
  unfold impl_RingsAt.f at h
  refine VCalls.of (fn := Tryz.f101) (N := 24) Tryz.func101 rfl rfl (fun w0 => ?_)
  obtain ⟨t563, g1742, h⟩ := bindN h
  let C1742 := mkCon (impl_nextOf.ok k a0 a1 t563 g1742) impl_nextOf.go
  have H0 : ∀ (kq : Nat) (v567 : Int) (v568 : Int), impl_RingsAt.l0 kq t563 v567 v568 = some r → AG Tryz.prog 101 24 [.c (.p (.sc (.int .i64 r)))] w0 (headStk (codeOf Tryz.f101) 0) (mkFS (impl_RingsAt.h0T v568 t563 v567) (impl_RingsAt.h0H v568 t563 v567)) := by
    intro kq
    induction kq with
    | zero => intro v567 v568 h; cases h
    | succ kq ih =>
      intro v567 v568 h
      rw [impl_RingsAt.l0] at h
      by_cases c1749 : v567 < (t563.length : Int)
      · replace h := (if_pos c1749).symm.trans h
        obtain ⟨t569, g1750, h⟩ := bindN h
        let C1750 := mkCon (impl_ringOf.ok kq t563 v567 t569 g1750) impl_ringOf.go
        by_cases c1751 : 2 < t569
        · replace h := (if_pos c1751).symm.trans h
          exact byHead MX Tryz.func101 1000 [.b true, .call C1750, .b true, .fin] (o1 (decide_eq_true c1749) (oa (sc_ C1750) (o1 (decide_eq_true c1751) on))) (ih (w64 (v567 + 1)) (w64 (v568 + 1)) h) (by kernel_rfl)
        · replace h := (if_neg c1751).symm.trans h
          exact byHead MX Tryz.func101 1000 [.b true, .call C1750, .b false, .fin] (o1 (decide_eq_true c1749) (oa (sc_ C1750) (o1 (decide_eq_false c1751) on))) (ih (w64 (v567 + 1)) v568 h) (by kernel_rfl)
      · replace h := (if_neg c1749).symm.trans h
        cases h
        exact byRet MX Tryz.func101 1000 [.b false, .fin, .fin] (o1 (decide_eq_false c1749) on) (by kernel_rfl)
  exact byHead MX Tryz.func101 1000 [.call C1742, .fin] (oa (sc_ C1742) on) (H0 k 0 0 h) (by kernel_rfl)

/-! ### impl_PlanFault_3: function 100 -/
def impl_PlanFault_3.f (k : Nat) (a0 : Int) (a1 : S45) : Option Bool := (impl_RingsAt.f k a1.f2 a0).bind fun t570 => some (!decide (t570 = 0))
theorem impl_PlanFault_3.go : Callable Tryz.prog 100 := ⟨_, Tryz.func100, by kernel_rfl, rfl⟩
theorem impl_PlanFault_3.ok (k : Nat) (a0 : Int) (a1 : S45) (r : Bool) (h : impl_PlanFault_3.f k a0 a1 = some r) : VCalls Tryz.prog 100 [.c (.sc (.int .i64 a0)), .ptr [.sc (.int .i64 a1.f0), .sc (.int .i64 a1.f1), R 1 e65 z65 a1.f2]] [.c (.p (.sc (.bool r)))] := by
  unfold impl_PlanFault_3.f at h
  refine VCalls.of (fn := Tryz.f100) (N := 9) Tryz.func100 rfl rfl (fun w0 => ?_)
  obtain ⟨t570, g1752, h⟩ := bindN h
  let C1752 := mkCon (impl_RingsAt.ok k a1.f2 a0 t570 g1752) impl_RingsAt.go
  cases h
  exact byRet MX Tryz.func100 1000 [.call C1752, .fin] (oa (sc_ C1752) on) (by kernel_rfl)

/-! ### impl_PlanFault_4: function 102 -/
def impl_PlanFault_4.f (k : Nat) (a0 : Int) (a1 : List Int) : Option Bool := (slices_Contains_int_int.f k a1 a0).bind fun t572 => some (!t572)
theorem impl_PlanFault_4.go : Callable Tryz.prog 102 := ⟨_, Tryz.func102, by kernel_rfl, rfl⟩
theorem impl_PlanFault_4.ok (k : Nat) (a0 : Int) (a1 : List Int) (r : Bool) (h : impl_PlanFault_4.f k a0 a1 = some r) : VCalls Tryz.prog 102 [.c (.sc (.int .i64 a0)), .ptr [R 1 (eI .i64) 0 a1]] [.c (.p (.sc (.bool r)))] := by
  unfold impl_PlanFault_4.f at h
  refine VCalls.of (fn := Tryz.f102) (N := 8) Tryz.func102 rfl rfl (fun w0 => ?_)
  obtain ⟨t572, g1756, h⟩ := bindN h
  let C1756 := mkCon (slices_Contains_int_int.ok k a1 a0 t572 g1756) slices_Contains_int_int.go
  cases h
  exact byRet MX Tryz.func102 1000 [.call C1756, .fin] (oa (sc_ C1756) on) (by kernel_rfl)

/-! ### slices_IndexFunc_int_int_1: function 109 -/
def slices_IndexFunc_int_int_1.h0T (a0 : List Int) (gi1 : FuncId) (u1_0_0 : V) (v574 : Int) : List (Nat × AV) := [(0, .t (.c (.p false (R 1 (eI .i64) 0 a0)))), (1, .bfn gi1 [[u1_0_0]]), (7, .t (.c (.p true (.sc (.int .i64 (a0.length : Int)))))), (8, .t (.c (.p true (.sc (.int .i64 v574)))))]
def slices_IndexFunc_int_int_1.h0H (a0 : List Int) (gi1 : FuncId) (u1_0_0 : V) (v574 : Int) : List (Nat × Content) := []
def slices_IndexFunc_int_int_1.l0 : Nat → List Int → (Int → Option Bool) → Int → Option Int
  | 0, _, _, _ => none
  | kq + 1, a0, p1, v574 => if v574 < (a0.length : Int) then (if 0 ≤ v574 then ((p1 (rdD 0 a0 v574)).bind fun t575 => if t575 = true then (some v574) else (slices_IndexFunc_int_int_1.l0 kq a0 p1 (w64 (v574 + 1)))) else none) else (some (-1))
def slices_IndexFunc_int_int_1.f (k : Nat) (a0 : List Int) (p1 : Int → Option Bool) : Option Int := slices_IndexFunc_int_int_1.l0 k a0 p1 0
theorem slices_IndexFunc_int_int_1.go : Callable Tryz.prog 109 := ⟨_, Tryz.func109, by kernel_rfl, rfl⟩
theorem slices_IndexFunc_int_int_1.ok (k : Nat) (a0 : List Int) (p1 : Int → Option Bool) (gi1 : FuncId) (u1_0_0 : V) (hp1 : ∀ x0 r, p1 x0 = some r → VCalls Tryz.prog gi1 [.c (.sc (.int .i64 x0)), .ptr [u1_0_0]] [.c (.p (.sc (.bool r)))]) (go1 : Callable Tryz.prog gi1) (r : Int) (h : slices_IndexFunc_int_int_1.f k a0 p1 = some r) : VCalls Tryz.prog 109 [.c (R 1 (eI .i64) 0 a0), .fn gi1 [[u1_0_0]]] [.c (.p (.sc (.int .i64 r)))] := by
  unfold slices_IndexFunc_int_int_1.f at h
  refine VCalls.of (fn := Tryz.f109) (N := 19) Tryz.func109 rfl rfl (fun w0 => ?_)
  have H0 : ∀ (kq : Nat) (v574 : Int), slices_IndexFunc_int_int_1.l0 kq a0 p1 v574 = some r → AG Tryz.prog 109 19 [.c (.p (.sc (.int .i64 r)))] w0 (headStk (codeOf Tryz.f109) 0) (mkFS (slices_IndexFunc_int_int_1.h0T a0 gi1 u1_0_0 v574) (slices_IndexFunc_int_int_1.h0H a0 gi1 u1_0_0 v574)) := by
    intro kq
    induction kq with
    | zero => intro v574 h; cases h
    | succ kq ih =>
      intro v574 h
      rw [slices_IndexFunc_int_int_1.l0] at h
      by_cases c1761 : v574 < (a0.length : Int)
      · replace h := (if_pos c1761).symm.trans h
        obtain ⟨c1762, h⟩ := ifN h
        obtain ⟨t575, g1763, h⟩ := bindN h
        let C1763 := mkCon (hp1 (rdD 0 a0 v574) t575 g1763) go1
        by_cases c1764 : t575 = true
        · replace h := (if_pos c1764).symm.trans h
          cases h
          exact byRet MX Tryz.func109 1000 [.b true, .call C1763, .b true, .fin] (o1 (decide_eq_true c1761) (o1 c1762 (o1 c1761 (oa (sc_ C1763) (o1 c1764 on))))) (by kernel_rfl)
        · replace h := (if_neg c1764).symm.trans h
          exact byHead MX Tryz.func109 1000 [.b true, .call C1763, .b false, .fin] (o1 (decide_eq_true c1761) (o1 c1762 (o1 c1761 (oa (sc_ C1763) (o1 (eqf c1764) on))))) (ih (w64 (v574 + 1)) h) (by kernel_rfl)
      · replace h := (if_neg c1761).symm.trans h
        cases h
        exact byRet MX Tryz.func109 1000 [.b false, .fin, .fin] (o1 (decide_eq_false c1761) on) (by kernel_rfl)
  exact byHead MX Tryz.func109 1000 [.fin] on (H0 k 0 h) (by kernel_rfl)
end Go.Proofs.YtnnppdjmhellcaaGreat.V
