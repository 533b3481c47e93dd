/- What each Go function computes, and that the machine does so: printed by a program of this session (avgen.py). -/
import Derived.Test.YtoaknaceaghclaaGreatV8
namespace Go.Proofs.YtoaknaceaghclaaGreat.V
open Go Go.Av Go.Proofs
set_option linter.unusedVariables false
set_option maxRecDepth 100000
/-! ### impl_formFault: function 168 -/
def impl_formFault.h0T (a0 : List Int) (a1 : S45) (v511 : Int) : List (Nat × AV) := [(0, .t (.c (.p false (R 1 (eI .i64) 0 a0)))), (3, .ptr 192 0), (14, .t (.c (.p false (R 1 e72 z72 a1.f2)))), (15, .t (.c (.p true (.sc (.int .i64 (a1.f2.length : Int)))))), (16, .t (.c (.p true (.sc (.int .i64 v511)))))]
def impl_formFault.h0H (a0 : List Int) (a1 : S45) (v511 : Int) : List (Nat × Content) := [(192, .box 45 [.p false (.sc (.int .i64 a1.f0)), .p false (.sc (.int .i64 a1.f1)), .p false (R 1 e72 z72 a1.f2)])]
def impl_formFault.l0 : Nat → S45 → List Int → Int → Option Bool
  | 0, _, _, _ => none
  | kq + 1, a1, a0, v511 => if v511 < (a1.f2.length : Int) then (if 0 ≤ v511 then (if (((rdD z72 a1.f2 v511).f0).length : Int) = (w64 (a1.f0 + 1)) then (if 0 < (((rdD z72 a1.f2 v511).f0).length : Int) then (if v511 < (a0.length : Int) then (if (rdD 0 ((rdD z72 a1.f2 v511).f0) 0) = (rdD 0 a0 v511) then (impl_formFault.l0 kq a1 a0 (w64 (v511 + 1))) else (some true)) else none) else none) else (some true)) else none) else (some false)
def impl_formFault.f (k : Nat) (a0 : List Int) (a1 : S45) : Option Bool := if (a1.f2.length : Int) = (a0.length : Int) then (impl_formFault.l0 k a1 a0 0) else (some true)
theorem impl_formFault.go : Callable Tryz.prog 168 := ⟨_, Tryz.func168, by kernel_rfl, rfl⟩
theorem impl_formFault.ok (k : Nat) (a0 : List Int) (a1 : S45) (r : Bool) (h : impl_formFault.f k a0 a1 = some r) : VCalls Tryz.prog 168 [.c (R 1 (eI .i64) 0 a0), .agg (e45 a1)] [.c (.p (.sc (.bool r)))] := by
  unfold impl_formFault.f at h
  refine VCalls.of (fn := Tryz.f168) (N := 40) Tryz.func168 rfl rfl (fun w0 => ?_)
  by_cases c1592 : (a1.f2.length : Int) = (a0.length : Int)
  · replace h := (if_pos c1592).symm.trans h
    have H0 : ∀ (kq : Nat) (v511 : Int), impl_formFault.l0 kq a1 a0 v511 = some r → AG Tryz.prog 168 40 [.c (.p (.sc (.bool r)))] w0 (headStk (codeOf Tryz.f168) 0) (mkFS (impl_formFault.h0T a0 a1 v511) (impl_formFault.h0H a0 a1 v511)) := by
      intro kq
      induction kq with
      | zero => intro v511 h; cases h
      | succ kq ih =>
        intro v511 h
        rw [impl_formFault.l0] at h
        by_cases c1598 : v511 < (a1.f2.length : Int)
        · replace h := (if_pos c1598).symm.trans h
          obtain ⟨c1599, h⟩ := ifN h
          by_cases c1600 : (((rdD z72 a1.f2 v511).f0).length : Int) = (w64 (a1.f0 + 1))
          · replace h := (if_pos c1600).symm.trans h
            obtain ⟨c1601, h⟩ := ifN h
            obtain ⟨c1602, h⟩ := ifN h
            by_cases c1603 : (rdD 0 ((rdD z72 a1.f2 v511).f0) 0) = (rdD 0 a0 v511)
            · replace h := (if_pos c1603).symm.trans h
              exact byHead MX Tryz.func168 1000 [.b true, .dec 28 false, .b false, .fin] (o1 (decide_eq_true c1598) (o1 c1599 (o1 c1598 (o1 (bnf (decide_eq_true c1600)) (o1 (by decide : (0 : Int) ≤ 0) (o1 c1601 (o1 c1599 (o1 c1602 (o1 (bnf (decide_eq_true c1603)) on))))))))) (ih (w64 (v511 + 1)) h) (by kernel_rfl)
            · replace h := (if_neg c1603).symm.trans h
              cases h
              exact byRet MX Tryz.func168 1000 [.b true, .dec 28 false, .b true, .fin] (o1 (decide_eq_true c1598) (o1 c1599 (o1 c1598 (o1 (bnf (decide_eq_true c1600)) (o1 (by decide : (0 : Int) ≤ 0) (o1 c1601 (o1 c1599 (o1 c1602 (o1 (bnt (decide_eq_false c1603)) on))))))))) (by kernel_rfl)
          · replace h := (if_neg c1600).symm.trans h
            cases h
            exact byRet MX Tryz.func168 1000 [.b true, .dec 28 true, .b true, .fin] (o1 (decide_eq_true c1598) (o1 c1599 (o1 c1598 (o1 (bnt (decide_eq_false c1600)) (o1 (rfl : true = true) on))))) (by kernel_rfl)
        · replace h := (if_neg c1598).symm.trans h
          cases h
          exact byRet MX Tryz.func168 1000 [.b false, .fin, .fin] (o1 (decide_eq_false c1598) on) (by kernel_rfl)
    exact byHead MX Tryz.func168 1000 [.b false, .fin] (o1 (bnf (decide_eq_true c1592)) on) (H0 k 0 h) (by kernel_rfl)
  · replace h := (if_neg c1592).symm.trans h
    cases h
    exact byRet MX Tryz.func168 1000 [.b true, .fin] (o1 (bnt (decide_eq_false c1592)) on) (by kernel_rfl)

/-! ### impl_stepFault: function 169 -/
def impl_stepFault.h1T (a1 : List S72) (v519 : Int) (v521 : Int) (a0 : S38) : List (Nat × AV) := [(2, .ptr 128 0), (6, .ptr 384 0), (9, .t (.c (.p false (R 1 e72 z72 a1)))), (10, .t (.c (.p true (.sc (.int .i64 (a1.length : Int)))))), (11, .t (.c (.p true (.sc (.int .i64 v519))))), (16, .t (.c (.p false (R 1 (eI .i64) 0 ((rdD z72 a1 v519).f0))))), (17, .t (.c (.p true (.sc (.int .i64 (((rdD z72 a1 v519).f0).length : Int)))))), (18, .t (.c (.p true (.sc (.int .i64 v521)))))]
def impl_stepFault.h1H (a1 : List S72) (v519 : Int) (v521 : Int) (a0 : S38) : List (Nat × Content) := [(128, .box 38 [.p false (.sc (.int .i64 a0.f0)), .p false (.sc (.int .i64 a0.f1)), .p false (.sc (.string a0.f2))]), (384, .box 72 [.p false (R 1 (eI .i64) 0 ((rdD z72 a1 v519).f0))])]
def impl_stepFault.x1T (a1 : List S72) (v519 : Int) (a0 : S38) : List (Nat × AV) := [(2, .ptr 128 0), (9, .t (.c (.p false (R 1 e72 z72 a1)))), (10, .t (.c (.p true (.sc (.int .i64 (a1.length : Int)))))), (11, .t (.c (.p true (.sc (.int .i64 v519)))))]
def impl_stepFault.x1H (a1 : List S72) (v519 : Int) (a0 : S38) : List (Nat × Content) := [(128, .box 38 [.p false (.sc (.int .i64 a0.f0)), .p false (.sc (.int .i64 a0.f1)), .p false (.sc (.string a0.f2))])]
def impl_stepFault.l1 : Nat → List S72 → Int → S38 → Int → Option (Bool ⊕ Unit)
  | 0, _, _, _, _ => none
  | kq + 1, a1, v519, a0, v521 => if v521 < (((rdD z72 a1 v519).f0).length : Int) then (if 0 ≤ v521 then ((impl_isFree.f a0 (rdD 0 ((rdD z72 a1 v519).f0) v521)).bind fun t522 => if t522 = true then (if 0 < v521 then (if 0 ≤ (w64 (v521 - 1)) then (if (w64 (v521 - 1)) < (((rdD z72 a1 v519).f0).length : Int) then (if (rdD 0 ((rdD z72 a1 v519).f0) v521) = (rdD 0 ((rdD z72 a1 v519).f0) (w64 (v521 - 1))) then (impl_stepFault.l1 kq a1 v519 a0 (w64 (v521 + 1))) else ((impl_around.f a0 (rdD 0 ((rdD z72 a1 v519).f0) (w64 (v521 - 1)))).bind fun t523 => (slices_Contains_int_int.f kq t523 (rdD 0 ((rdD z72 a1 v519).f0) v521)).bind fun t524 => if t524 = true then (impl_stepFault.l1 kq a1 v519 a0 (w64 (v521 + 1))) else (some (.inl true)))) else none) else none) else (impl_stepFault.l1 kq a1 v519 a0 (w64 (v521 + 1)))) else (some (.inl true))) else none) else (some (.inr ()))
def impl_stepFault.h0T (a1 : List S72) (v519 : Int) (a0 : S38) : List (Nat × AV) := [(2, .ptr 128 0), (9, .t (.c (.p false (R 1 e72 z72 a1)))), (10, .t (.c (.p true (.sc (.int .i64 (a1.length : Int)))))), (11, .t (.c (.p true (.sc (.int .i64 v519)))))]
def impl_stepFault.h0H (a1 : List S72) (v519 : Int) (a0 : S38) : List (Nat × Content) := [(128, .box 38 [.p false (.sc (.int .i64 a0.f0)), .p false (.sc (.int .i64 a0.f1)), .p false (.sc (.string a0.f2))])]
def impl_stepFault.l0 : Nat → List S72 → S38 → Int → Option Bool
  | 0, _, _, _ => none
  | kq + 1, a1, a0, v519 => if v519 < (a1.length : Int) then (if 0 ≤ v519 then ((impl_stepFault.l1 kq a1 v519 a0 0).bind fun x1645 => match x1645 with | .inl r => some r | .inr y525 => (impl_stepFault.l0 kq a1 a0 (w64 (v519 + 1)))) else none) else (some false)
def impl_stepFault.f (k : Nat) (a0 : S38) (a1 : List S72) : Option Bool := impl_stepFault.l0 k a1 a0 0
theorem impl_stepFault.go : Callable Tryz.prog 169 := ⟨_, Tryz.func169, by kernel_rfl, rfl⟩
theorem impl_stepFault.ok (k : Nat) (a0 : S38) (a1 : List S72) (r : Bool) (h : impl_stepFault.f k a0 a1 = some r) : VCalls Tryz.prog 169 [.agg (e38 a0), .c (R 1 e72 z72 a1)] [.c (.p (.sc (.bool r)))] := by
  unfold impl_stepFault.f at h
  refine VCalls.of (fn := Tryz.f169) (N := 56) Tryz.func169 rfl rfl (fun w0 => ?_)
  have H0 : ∀ (kq : Nat) (v519 : Int), impl_stepFault.l0 kq a1 a0 v519 = some r → AG Tryz.prog 169 56 [.c (.p (.sc (.bool r)))] w0 (headStk (codeOf Tryz.f169) 0) (mkFS (impl_stepFault.h0T a1 v519 a0) (impl_stepFault.h0H a1 v519 a0)) := by
    intro kq
    induction kq with
    | zero => intro v519 h; cases h
    | succ kq ih =>
      intro v519 h
      rw [impl_stepFault.l0] at h
      by_cases c1625 : v519 < (a1.length : Int)
      · replace h := (if_pos c1625).symm.trans h
        obtain ⟨c1626, h⟩ := ifN h
        have H1 : ∀ (kq : Nat) (v521 : Int) (x : (Bool ⊕ Unit)), impl_stepFault.l1 kq a1 v519 a0 v521 = some x → (match x with | .inl r' => r' = r | .inr y525 => AG Tryz.prog 169 56 [.c (.p (.sc (.bool r)))] w0 (exitStk (codeOf Tryz.f169) 1) (mkFS (impl_stepFault.x1T a1 v519 a0) (impl_stepFault.x1H a1 v519 a0))) → AG Tryz.prog 169 56 [.c (.p (.sc (.bool r)))] w0 (headStk (codeOf Tryz.f169) 1) (mkFS (impl_stepFault.h1T a1 v519 v521 a0) (impl_stepFault.h1H a1 v519 v521 a0)) := by
          intro kq
          induction kq with
          | zero => intro v521 x h hx; cases h
          | succ kq ih =>
            intro v521 x h hx
            rw [impl_stepFault.l1] at h
            by_cases c1634 : v521 < (((rdD z72 a1 v519).f0).length : Int)
            · replace h := (if_pos c1634).symm.trans h
              obtain ⟨c1635, h⟩ := ifN h
              obtain ⟨t522, g1636, h⟩ := bindN h
              let C1636 := mkCon (impl_isFree.ok a0 (rdD 0 ((rdD z72 a1 v519).f0) v521) t522 g1636) impl_isFree.go
              by_cases c1637 : t522 = true
              · replace h := (if_pos c1637).symm.trans h
                by_cases c1638 : 0 < v521
                · replace h := (if_pos c1638).symm.trans h
                  obtain ⟨c1639, h⟩ := ifN h
                  obtain ⟨c1640, h⟩ := ifN h
                  by_cases c1641 : (rdD 0 ((rdD z72 a1 v519).f0) v521) = (rdD 0 ((rdD z72 a1 v519).f0) (w64 (v521 - 1)))
                  · replace h := (if_pos c1641).symm.trans h
                    exact byHead MX Tryz.func169 1000 [.b true, .call C1636, .dec 27 false, .dec 30 true, .dec 40 false, .b false, .fin] (o1 (decide_eq_true c1634) (o1 c1635 (o1 c1634 (oa (sc_ C1636) (o1 (bnf c1637) (o1 (decide_eq_true c1638) (o1 c1639 (o1 c1640 (o1 (bnf (decide_eq_true c1641)) (o1 (rfl : false = false) on)))))))))) (ih (w64 (v521 + 1)) _ h hx) (by kernel_rfl)
                  · replace h := (if_neg c1641).symm.trans h
                    obtain ⟨t523, g1642, h⟩ := bindN h
                    let C1642 := mkCon (impl_around.ok a0 (rdD 0 ((rdD z72 a1 v519).f0) (w64 (v521 - 1))) t523 g1642) impl_around.go
                    obtain ⟨t524, g1643, h⟩ := bindN h
                    let C1643 := mkCon (slices_Contains_int_int.ok kq t523 (rdD 0 ((rdD z72 a1 v519).f0) v521) t524 g1643) slices_Contains_int_int.go
                    by_cases c1644 : t524 = true
                    · replace h := (if_pos c1644).symm.trans h
                      exact byHead MX Tryz.func169 1000 [.b true, .call C1636, .dec 27 false, .dec 30 true, .dec 40 true, .call C1642, .call C1643, .b false, .fin] (o1 (decide_eq_true c1634) (o1 c1635 (o1 c1634 (oa (sc_ C1636) (o1 (bnf c1637) (o1 (decide_eq_true c1638) (o1 c1639 (o1 c1640 (o1 (bnt (decide_eq_false c1641)) (o1 c1639 (o1 c1640 (oa (sc_ C1642) (oa (sc_ C1643) (o1 (bnf c1644) on)))))))))))))) (ih (w64 (v521 + 1)) _ h hx) (by kernel_rfl)
                    · replace h := (if_neg c1644).symm.trans h
                      cases h
                      subst hx
                      exact byRet MX Tryz.func169 1000 [.b true, .call C1636, .dec 27 false, .dec 30 true, .dec 40 true, .call C1642, .call C1643, .b true, .fin] (o1 (decide_eq_true c1634) (o1 c1635 (o1 c1634 (oa (sc_ C1636) (o1 (bnf c1637) (o1 (decide_eq_true c1638) (o1 c1639 (o1 c1640 (o1 (bnt (decide_eq_false c1641)) (o1 c1639 (o1 c1640 (oa (sc_ C1642) (oa (sc_ C1643) (o1 (bnt (eqf c1644)) on)))))))))))))) (by kernel_rfl)
                · replace h := (if_neg c1638).symm.trans h
                  exact byHead MX Tryz.func169 1000 [.b true, .call C1636, .dec 27 false, .dec 30 false, .b false, .fin] (o1 (decide_eq_true c1634) (o1 c1635 (o1 c1634 (oa (sc_ C1636) (o1 (bnf c1637) (o1 (decide_eq_false c1638) (o1 (rfl : false = false) on))))))) (ih (w64 (v521 + 1)) _ h hx) (by kernel_rfl)
              · replace h := (if_neg c1637).symm.trans h
                cases h
                subst hx
                exact byRet MX Tryz.func169 1000 [.b true, .call C1636, .dec 27 true, .b true, .fin] (o1 (decide_eq_true c1634) (o1 c1635 (o1 c1634 (oa (sc_ C1636) (o1 (bnt (eqf c1637)) (o1 (rfl : true = true) on)))))) (by kernel_rfl)
            · replace h := (if_neg c1634).symm.trans h
              cases h
              exact byStop MX Tryz.func169 1000 [.b false, .fin] (o1 (decide_eq_false c1634) on) hx (by kernel_rfl)
        obtain ⟨x1645, g1645, h⟩ := bindN h
        cases x1645 with
        | inl r' =>
          exact byHead MX Tryz.func169 1000 [.b true, .fin] (o1 (decide_eq_true c1625) (o1 c1626 (o1 c1625 on))) (H1 kq 0 _ g1645 (Option.some.inj h)) (by kernel_rfl)
        | inr y525 =>
          refine byHead MX Tryz.func169 1000 [.b true, .fin] (o1 (decide_eq_true c1625) (o1 c1626 (o1 c1625 on))) (H1 kq 0 _ g1645 ?_) (by kernel_rfl)
          show AG Tryz.prog 169 56 [.c (.p (.sc (.bool r)))] w0 (exitStk (codeOf Tryz.f169) 1) (mkFS (impl_stepFault.x1T a1 v519 a0) (impl_stepFault.x1H a1 v519 a0))
          exact byHead MX Tryz.func169 1000 [.fin] on (ih (w64 (v519 + 1)) h) (by kernel_rfl)
      · replace h := (if_neg c1625).symm.trans h
        cases h
        exact byRet MX Tryz.func169 1000 [.b false, .fin, .fin] (o1 (decide_eq_false c1625) on) (by kernel_rfl)
  exact byHead MX Tryz.func169 1000 [.fin] on (H0 k 0 h) (by kernel_rfl)

/-! ### impl_areLevel_1: function 248 -/
def impl_areLevel_1.f (a0 : S72) (a1 : List S72) : Option Bool := if 0 < (a1.length : Int) then (some (!decide ((a0.f0.length : Int) = (((rdD z72 a1 0).f0).length : Int)))) else none
theorem impl_areLevel_1.go : Callable Tryz.prog 248 := ⟨_, Tryz.func248, by kernel_rfl, rfl⟩
theorem impl_areLevel_1.ok (a0 : S72) (a1 : List S72) (r : Bool) (h : impl_areLevel_1.f a0 a1 = some r) : VCalls Tryz.prog 248 [.agg (e72 a0), .ptr [R 1 e72 z72 a1]] [.c (.p (.sc (.bool r)))] := by
  unfold impl_areLevel_1.f at h
  refine VCalls.of (fn := Tryz.f248) (N := 13) Tryz.func248 rfl rfl (fun w0 => ?_)
  obtain ⟨c1650, h⟩ := ifN h
  cases h
  exact byRet MX Tryz.func248 1000 [.fin] (o1 (by decide : (0 : Int) ≤ 0) (o1 c1650 on)) (by kernel_rfl)

/-! ### slices_IndexFunc_impl_Way_impl_Way_1: function 236 -/
def slices_IndexFunc_impl_Way_impl_Way_1.h0T (a0 : List S72) (gi1 : FuncId) (u1_0_0 : V) (v528 : Int) : List (Nat × AV) := [(0, .t (.c (.p false (R 1 e72 z72 a0)))), (1, .bfn gi1 [[u1_0_0]]), (7, .t (.c (.p true (.sc (.int .i64 (a0.length : Int)))))), (8, .t (.c (.p true (.sc (.int .i64 v528)))))]
def slices_IndexFunc_impl_Way_impl_Way_1.h0H (a0 : List S72) (gi1 : FuncId) (u1_0_0 : V) (v528 : Int) : List (Nat × Content) := []
def slices_IndexFunc_impl_Way_impl_Way_1.l0 : Nat → List S72 → (S72 → Option Bool) → Int → Option Int
  | 0, _, _, _ => none
  | kq + 1, a0, p1, v528 => if v528 < (a0.length : Int) then (if 0 ≤ v528 then ((p1 (rdD z72 a0 v528)).bind fun t529 => if t529 = true then (some v528) else (slices_IndexFunc_impl_Way_impl_Way_1.l0 kq a0 p1 (w64 (v528 + 1)))) else none) else (some (-1))
def slices_IndexFunc_impl_Way_impl_Way_1.f (k : Nat) (a0 : List S72) (p1 : S72 → Option Bool) : Option Int := slices_IndexFunc_impl_Way_impl_Way_1.l0 k a0 p1 0
theorem slices_IndexFunc_impl_Way_impl_Way_1.go : Callable Tryz.prog 236 := ⟨_, Tryz.func236, by kernel_rfl, rfl⟩
theorem slices_IndexFunc_impl_Way_impl_Way_1.ok (k : Nat) (a0 : List S72) (p1 : S72 → Option Bool) (gi1 : FuncId) (u1_0_0 : V) (hp1 : ∀ x0 r, p1 x0 = some r → VCalls Tryz.prog gi1 [.agg (e72 x0), .ptr [u1_0_0]] [.c (.p (.sc (.bool r)))]) (go1 : Callable Tryz.prog gi1) (r : Int) (h : slices_IndexFunc_impl_Way_impl_Way_1.f k a0 p1 = some r) : VCalls Tryz.prog 236 [.c (R 1 e72 z72 a0), .fn gi1 [[u1_0_0]]] [.c (.p (.sc (.int .i64 r)))] := by
  unfold slices_IndexFunc_impl_Way_impl_Way_1.f at h
  refine VCalls.of (fn := Tryz.f236) (N := 19) Tryz.func236 rfl rfl (fun w0 => ?_)
  have H0 : ∀ (kq : Nat) (v528 : Int), slices_IndexFunc_impl_Way_impl_Way_1.l0 kq a0 p1 v528 = some r → AG Tryz.prog 236 19 [.c (.p (.sc (.int .i64 r)))] w0 (headStk (codeOf Tryz.f236) 0) (mkFS (slices_IndexFunc_impl_Way_impl_Way_1.h0T a0 gi1 u1_0_0 v528) (slices_IndexFunc_impl_Way_impl_Way_1.h0H a0 gi1 u1_0_0 v528)) := by
    intro kq
    induction kq with
    | zero => intro v528 h; cases h
    | succ kq ih =>
      intro v528 h
      rw [slices_IndexFunc_impl_Way_impl_Way_1.l0] at h
      by_cases c1655 : v528 < (a0.length : Int)
      · replace h := (if_pos c1655).symm.trans h
        obtain ⟨c1656, h⟩ := ifN h
        obtain ⟨t529, g1657, h⟩ := bindN h
        let C1657 := mkCon (hp1 (rdD z72 a0 v528) t529 g1657) go1
        by_cases c1658 : t529 = true
        · replace h := (if_pos c1658).symm.trans h
          cases h
          exact byRet MX Tryz.func236 1000 [.b true, .call C1657, .b true, .fin] (o1 (decide_eq_true c1655) (o1 c1656 (o1 c1655 (oa (sc_ C1657) (o1 c1658 on))))) (by kernel_rfl)
        · replace h := (if_neg c1658).symm.trans h
          exact byHead MX Tryz.func236 1000 [.b true, .call C1657, .b false, .fin] (o1 (decide_eq_true c1655) (o1 c1656 (o1 c1655 (oa (sc_ C1657) (o1 (eqf c1658) on))))) (ih (w64 (v528 + 1)) h) (by kernel_rfl)
      · replace h := (if_neg c1655).symm.trans h
        cases h
        exact byRet MX Tryz.func236 1000 [.b false, .fin, .fin] (o1 (decide_eq_false c1655) on) (by kernel_rfl)
  exact byHead MX Tryz.func236 1000 [.fin] on (H0 k 0 h) (by kernel_rfl)

/-! ### slices_ContainsFunc_impl_Way_impl_Way_1: function 209 -/
def slices_ContainsFunc_impl_Way_impl_Way_1.f (k : Nat) (a0 : List S72) (p1 : S72 → Option Bool) : Option Bool := (slices_IndexFunc_impl_Way_impl_Way_1.f k a0 p1).bind fun t530 => some (decide (0 ≤ t530))
theorem slices_ContainsFunc_impl_Way_impl_Way_1.go : Callable Tryz.prog 209 := ⟨_, Tryz.func209, by kernel_rfl, rfl⟩
theorem slices_ContainsFunc_impl_Way_impl_Way_1.ok (k : Nat) (a0 : List S72) (p1 : S72 → Option Bool) (gi1 : FuncId) (u1_0_0 : V) (hp1 : ∀ x0 r, p1 x0 = some r → VCalls Tryz.prog gi1 [.agg (e72 x0), .ptr [u1_0_0]] [.c (.p (.sc (.bool r)))]) (go1 : Callable Tryz.prog gi1) (r : Bool) (h : slices_ContainsFunc_impl_Way_impl_Way_1.f k a0 p1 = some r) : VCalls Tryz.prog 209 [.c (R 1 e72 z72 a0), .fn gi1 [[u1_0_0]]] [.c (.p (.sc (.bool r)))] := by
  unfold slices_ContainsFunc_impl_Way_impl_Way_1.f at h
  refine VCalls.of (fn := Tryz.f209) (N := 9) Tryz.func209 rfl rfl (fun w0 => ?_)
  obtain ⟨t530, g1659, h⟩ := bindN h
  let C1659 := mkCon (slices_IndexFunc_impl_Way_impl_Way_1.ok k a0 p1 gi1 u1_0_0 hp1 go1 t530 g1659) slices_IndexFunc_impl_Way_impl_Way_1.go
  cases h
  exact byRet MX Tryz.func209 1000 [.call C1659, .fin] (oa (sc_ C1659) on) (by kernel_rfl)

/-! ### impl_areLevel: function 238 -/
def impl_areLevel.f (k : Nat) (a0 : List S72) : Option Bool := if 1 ≤ (a0.length : Int) then (if (a0.length : Int) ≤ 10 then ((slices_ContainsFunc_impl_Way_impl_Way_1.f k a0 (fun x1651 => impl_areLevel_1.f x1651 a0)).bind fun t531 => some (!t531)) else (some false)) else (some false)
theorem impl_areLevel.go : Callable Tryz.prog 238 := ⟨_, Tryz.func238, by kernel_rfl, rfl⟩
theorem impl_areLevel.ok (k : Nat) (a0 : List S72) (r : Bool) (h : impl_areLevel.f k a0 = some r) : VCalls Tryz.prog 238 [.c (R 1 e72 z72 a0)] [.c (.p (.sc (.bool r)))] := by
  unfold impl_areLevel.f at h
  refine VCalls.of (fn := Tryz.f238) (N := 17) Tryz.func238 rfl rfl (fun w0 => ?_)
  by_cases c1648 : 1 ≤ (a0.length : Int)
  · replace h := (if_pos c1648).symm.trans h
    by_cases c1649 : (a0.length : Int) ≤ 10
    · replace h := (if_pos c1649).symm.trans h
      obtain ⟨t531, g1660, h⟩ := bindN h
      let C1660 := mkCon (slices_ContainsFunc_impl_Way_impl_Way_1.ok k a0 (fun x1651 => impl_areLevel_1.f x1651 a0) 248 (R 1 e72 z72 a0) (fun x1651 r h => impl_areLevel_1.ok x1651 a0 r h) impl_areLevel_1.go t531 g1660) slices_ContainsFunc_impl_Way_impl_Way_1.go
      cases h
      exact byRet MX Tryz.func238 1000 [.dec 6 true, .dec 11 true, .call C1660, .fin] (o1 (decide_eq_true c1648) (o1 (decide_eq_true c1649) (oa (sc_ C1660) on))) (by kernel_rfl)
    · replace h := (if_neg c1649).symm.trans h
      cases h
      exact byRet MX Tryz.func238 1000 [.dec 6 true, .dec 11 false, .fin] (o1 (decide_eq_true c1648) (o1 (decide_eq_false c1649) on)) (by kernel_rfl)
  · replace h := (if_neg c1648).symm.trans h
    cases h
    exact byRet MX Tryz.func238 1000 [.dec 6 false, .fin] (o1 (decide_eq_false c1648) on) (by kernel_rfl)

/-! ### impl_LevelWays: function 214 -/
def impl_LevelWays.f (k : Nat) (a0 : List S72) (a1 : Int) : Option Bool := (impl_areLevel.f k a0).bind fun t532 => if t532 = true then (if 0 ≤ a1 then (if 0 < (a0.length : Int) then (some (decide (a1 < (w64 ((((rdD z72 a0 0).f0).length : Int) - 1))))) else none) else (some false)) else (some false)
theorem impl_LevelWays.go : Callable Tryz.prog 214 := ⟨_, Tryz.func214, by kernel_rfl, rfl⟩
theorem impl_LevelWays.ok (k : Nat) (a0 : List S72) (a1 : Int) (r : Bool) (h : impl_LevelWays.f k a0 a1 = some r) : VCalls Tryz.prog 214 [.c (R 1 e72 z72 a0), .c (.sc (.int .i64 a1))] [.c (.p (.sc (.bool r)))] := by
  unfold impl_LevelWays.f at h
  refine VCalls.of (fn := Tryz.f214) (N := 21) Tryz.func214 rfl rfl (fun w0 => ?_)
  obtain ⟨t532, g1661, h⟩ := bindN h
  let C1661 := mkCon (impl_areLevel.ok k a0 t532 g1661) impl_areLevel.go
  by_cases c1662 : t532 = true
  · replace h := (if_pos c1662).symm.trans h
    by_cases c1663 : 0 ≤ a1
    · replace h := (if_pos c1663).symm.trans h
      obtain ⟨c1664, h⟩ := ifN h
      cases h
      exact byRet MX Tryz.func214 1000 [.call C1661, .dec 7 true, .dec 11 true, .fin] (oa (sc_ C1661) (o1 c1662 (o1 (decide_eq_true c1663) (o1 (by decide : (0 : Int) ≤ 0) (o1 c1664 on))))) (by kernel_rfl)
    · replace h := (if_neg c1663).symm.trans h
      cases h
      exact byRet MX Tryz.func214 1000 [.call C1661, .dec 7 true, .dec 11 false, .fin] (oa (sc_ C1661) (o1 c1662 (o1 (decide_eq_false c1663) on))) (by kernel_rfl)
  · replace h := (if_neg c1662).symm.trans h
    cases h
    exact byRet MX Tryz.func214 1000 [.call C1661, .dec 7 false, .fin] (oa (sc_ C1661) (o1 (eqf c1662) on)) (by kernel_rfl)

/-! ### impl_meets: function 215 -/
def impl_meets.h1T (a0 : List S72) (a1 : Int) (v536 : Int) (v537 : Int) : List (Nat × AV) := [(0, .t (.c (.p false (R 1 e72 z72 a0)))), (1, .t (.c (.p false (.sc (.int .i64 a1))))), (5, .t (.c (.p true (.sc (.int .i64 v536))))), (8, .t (.c (.p true (.sc (.int .i64 (a0.length : Int)))))), (9, .t (.c (.p true (.sc (.int .i64 v536))))), (15, .t (.c (.p true (.sc (.int .i64 (((a0.drop (0 : Int).toNat).take (v536.toNat - (0 : Int).toNat)).length : Int)))))), (16, .t (.c (.p true (.sc (.int .i64 v537)))))]
def impl_meets.h1H (a0 : List S72) (a1 : Int) (v536 : Int) (v537 : Int) : List (Nat × Content) := []
def impl_meets.x1T (a0 : List S72) (a1 : Int) (v536 : Int) : List (Nat × AV) := [(0, .t (.c (.p false (R 1 e72 z72 a0)))), (1, .t (.c (.p false (.sc (.int .i64 a1))))), (8, .t (.c (.p true (.sc (.int .i64 (a0.length : Int)))))), (9, .t (.c (.p true (.sc (.int .i64 v536)))))]
def impl_meets.x1H (a0 : List S72) (a1 : Int) (v536 : Int) : List (Nat × Content) := []
def impl_meets.l1 : Nat → List S72 → Int → Int → Int → Option (Bool ⊕ Unit)
  | 0, _, _, _, _ => none
  | kq + 1, a0, v536, a1, v537 => if v537 < (((a0.drop (0 : Int).toNat).take (v536.toNat - (0 : Int).toNat)).length : Int) then (if 0 ≤ a1 then (if a1 < (((rdD z72 a0 v536).f0).length : Int) then (if 0 ≤ v537 then (if v537 < (a0.length : Int) then (if a1 < (((rdD z72 a0 v537).f0).length : Int) then (if (rdD 0 ((rdD z72 a0 v536).f0) a1) = (rdD 0 ((rdD z72 a0 v537).f0) a1) then (some (.inl true)) else (impl_meets.l1 kq a0 v536 a1 (w64 (v537 + 1)))) else none) else none) else none) else none) else none) else (some (.inr ()))
def impl_meets.h0T (a0 : List S72) (a1 : Int) (v536 : Int) : List (Nat × AV) := [(0, .t (.c (.p false (R 1 e72 z72 a0)))), (1, .t (.c (.p false (.sc (.int .i64 a1))))), (8, .t (.c (.p true (.sc (.int .i64 (a0.length : Int)))))), (9, .t (.c (.p true (.sc (.int .i64 v536)))))]
def impl_meets.h0H (a0 : List S72) (a1 : Int) (v536 : Int) : List (Nat × Content) := []
def impl_meets.l0 : Nat → List S72 → Int → Int → Option Bool
  | 0, _, _, _ => none
  | kq + 1, a0, a1, v536 => if v536 < (a0.length : Int) then (if 0 ≤ v536 then (if v536 ≤ (a0.length : Int) then ((impl_meets.l1 kq a0 v536 a1 0).bind fun x1696 => match x1696 with | .inl r => some r | .inr y538 => (impl_meets.l0 kq a0 a1 (w64 (v536 + 1)))) else none) else none) else (some false)
def impl_meets.f (k : Nat) (a0 : List S72) (a1 : Int) : Option Bool := impl_meets.l0 k a0 a1 0
theorem impl_meets.go : Callable Tryz.prog 215 := ⟨_, Tryz.func215, by kernel_rfl, rfl⟩
theorem impl_meets.ok (k : Nat) (a0 : List S72) (a1 : Int) (r : Bool) (h : impl_meets.f k a0 a1 = some r) : VCalls Tryz.prog 215 [.c (R 1 e72 z72 a0), .c (.sc (.int .i64 a1))] [.c (.p (.sc (.bool r)))] := by
  unfold impl_meets.f at h
  refine VCalls.of (fn := Tryz.f215) (N := 38) Tryz.func215 rfl rfl (fun w0 => ?_)
  have H0 : ∀ (kq : Nat) (v536 : Int), impl_meets.l0 kq a0 a1 v536 = some r → AG Tryz.prog 215 38 [.c (.p (.sc (.bool r)))] w0 (headStk (codeOf Tryz.f215) 0) (mkFS (impl_meets.h0T a0 a1 v536) (impl_meets.h0H a0 a1 v536)) := by
    intro kq
    induction kq with
    | zero => intro v536 h; cases h
    | succ kq ih =>
      intro v536 h
      rw [impl_meets.l0] at h
      by_cases c1680 : v536 < (a0.length : Int)
      · replace h := (if_pos c1680).symm.trans h
        obtain ⟨c1681, h⟩ := ifN h
        obtain ⟨c1682, h⟩ := ifN h
        have H1 : ∀ (kq : Nat) (v537 : Int) (x : (Bool ⊕ Unit)), impl_meets.l1 kq a0 v536 a1 v537 = some x → (match x with | .inl r' => r' = r | .inr y538 => AG Tryz.prog 215 38 [.c (.p (.sc (.bool r)))] w0 (exitStk (codeOf Tryz.f215) 1) (mkFS (impl_meets.x1T a0 a1 v536) (impl_meets.x1H a0 a1 v536))) → AG Tryz.prog 215 38 [.c (.p (.sc (.bool r)))] w0 (headStk (codeOf Tryz.f215) 1) (mkFS (impl_meets.h1T a0 a1 v536 v537) (impl_meets.h1H a0 a1 v536 v537)) := by
          intro kq
          induction kq with
          | zero => intro v537 x h hx; cases h
          | succ kq ih =>
            intro v537 x h hx
            rw [impl_meets.l1] at h
            by_cases c1689 : v537 < (((a0.drop (0 : Int).toNat).take (v536.toNat - (0 : Int).toNat)).length : Int)
            · replace h := (if_pos c1689).symm.trans h
              obtain ⟨c1690, h⟩ := ifN h
              obtain ⟨c1691, h⟩ := ifN h
              obtain ⟨c1692, h⟩ := ifN h
              obtain ⟨c1693, h⟩ := ifN h
              obtain ⟨c1694, h⟩ := ifN h
              by_cases c1695 : (rdD 0 ((rdD z72 a0 v536).f0) a1) = (rdD 0 ((rdD z72 a0 v537).f0) a1)
              · replace h := (if_pos c1695).symm.trans h
                cases h
                subst hx
                exact byRet MX Tryz.func215 1000 [.b true, .b true, .fin] (o1 (decide_eq_true c1689) (o1 c1681 (o1 c1680 (o1 c1690 (o1 c1691 (o1 c1692 (o1 c1693 (o1 c1690 (o1 c1694 (o1 (decide_eq_true c1695) on)))))))))) (by kernel_rfl)
              · replace h := (if_neg c1695).symm.trans h
                exact byHead MX Tryz.func215 1000 [.b true, .b false, .fin] (o1 (decide_eq_true c1689) (o1 c1681 (o1 c1680 (o1 c1690 (o1 c1691 (o1 c1692 (o1 c1693 (o1 c1690 (o1 c1694 (o1 (decide_eq_false c1695) on)))))))))) (ih (w64 (v537 + 1)) _ h hx) (by kernel_rfl)
            · replace h := (if_neg c1689).symm.trans h
              cases h
              exact byStop MX Tryz.func215 1000 [.b false, .fin] (o1 (decide_eq_false c1689) on) hx (by kernel_rfl)
        obtain ⟨x1696, g1696, h⟩ := bindN h
        cases x1696 with
        | inl r' =>
          exact byHead MX Tryz.func215 1000 [.b true, .cst 14 (R 1 e72 z72 ((a0.drop (0 : Int).toNat).take (v536.toNat - (0 : Int).toNat))), .fin] (o1 (decide_eq_true c1680) (o1 (by decide : (0 : Int) ≤ 0) (o1 c1681 (o1 c1682 (o1 (VE.cut (z := 1) (e := e72) (d := z72) a0 (n := a0.length) (lo := 0) (hi := v536) rfl (by decide : (0 : Int) ≤ 0) c1681 c1682) on))))) (H1 kq 0 _ g1696 (Option.some.inj h)) (by kernel_rfl)
        | inr y538 =>
          refine byHead MX Tryz.func215 1000 [.b true, .cst 14 (R 1 e72 z72 ((a0.drop (0 : Int).toNat).take (v536.toNat - (0 : Int).toNat))), .fin] (o1 (decide_eq_true c1680) (o1 (by decide : (0 : Int) ≤ 0) (o1 c1681 (o1 c1682 (o1 (VE.cut (z := 1) (e := e72) (d := z72) a0 (n := a0.length) (lo := 0) (hi := v536) rfl (by decide : (0 : Int) ≤ 0) c1681 c1682) on))))) (H1 kq 0 _ g1696 ?_) (by kernel_rfl)
          show AG Tryz.prog 215 38 [.c (.p (.sc (.bool r)))] w0 (exitStk (codeOf Tryz.f215) 1) (mkFS (impl_meets.x1T a0 a1 v536) (impl_meets.x1H a0 a1 v536))
          exact byHead MX Tryz.func215 1000 [.fin] on (ih (w64 (v536 + 1)) h) (by kernel_rfl)
      · replace h := (if_neg c1680).symm.trans h
        cases h
        exact byRet MX Tryz.func215 1000 [.b false, .fin, .fin] (o1 (decide_eq_false c1680) on) (by kernel_rfl)
  exact byHead MX Tryz.func215 1000 [.fin] on (H0 k 0 h) (by kernel_rfl)

/-! ### impl_MeetAt: function 172 -/
def impl_MeetAt.f (k : Nat) (a0 : List S72) (a1 : Int) : Option Bool := (impl_LevelWays.f k a0 a1).bind fun t533 => if t533 = true then ((impl_meets.f k a0 a1).bind fun t539 => if t539 = true then (some true) else ((impl_meets.f k a0 (w64 (a1 + 1))).bind fun t540 => some t540)) else (some false)
theorem impl_MeetAt.go : Callable Tryz.prog 172 := ⟨_, Tryz.func172, by kernel_rfl, rfl⟩
theorem impl_MeetAt.ok (k : Nat) (a0 : List S72) (a1 : Int) (r : Bool) (h : impl_MeetAt.f k a0 a1 = some r) : VCalls Tryz.prog 172 [.c (R 1 e72 z72 a0), .c (.sc (.int .i64 a1))] [.c (.p (.sc (.bool r)))] := by
  unfold impl_MeetAt.f at h
  refine VCalls.of (fn := Tryz.f172) (N := 19) Tryz.func172 rfl rfl (fun w0 => ?_)
  obtain ⟨t533, g1665, h⟩ := bindN h
  let C1665 := mkCon (impl_LevelWays.ok k a0 a1 t533 g1665) impl_LevelWays.go
  by_cases c1666 : t533 = true
  · replace h := (if_pos c1666).symm.trans h
    obtain ⟨t539, g1697, h⟩ := bindN h
    let C1697 := mkCon (impl_meets.ok k a0 a1 t539 g1697) impl_meets.go
    by_cases c1698 : t539 = true
    · replace h := (if_pos c1698).symm.trans h
      cases h
      exact byRet MX Tryz.func172 1000 [.call C1665, .dec 8 true, .call C1697, .dec 12 true, .fin] (oa (sc_ C1665) (o1 c1666 (oa (sc_ C1697) (o1 c1698 on)))) (by kernel_rfl)
    · replace h := (if_neg c1698).symm.trans h
      obtain ⟨t540, g1699, h⟩ := bindN h
      let C1699 := mkCon (impl_meets.ok k a0 (w64 (a1 + 1)) t540 g1699) impl_meets.go
      cases h
      exact byRet MX Tryz.func172 1000 [.call C1665, .dec 8 true, .call C1697, .dec 12 false, .call C1699, .fin] (oa (sc_ C1665) (o1 c1666 (oa (sc_ C1697) (o1 (eqf c1698) (oa (sc_ C1699) on))))) (by kernel_rfl)
  · replace h := (if_neg c1666).symm.trans h
    cases h
    exact byRet MX Tryz.func172 1000 [.call C1665, .dec 8 false, .fin] (oa (sc_ C1665) (o1 (eqf c1666) on)) (by kernel_rfl)

/-! ### impl_PlanFault_1: function 171 -/
def impl_PlanFault_1.f (k : Nat) (a0 : Int) (a1 : S45) : Option Bool := (impl_MeetAt.f k a1.f2 a0).bind fun t541 => some t541
theorem impl_PlanFault_1.go : Callable Tryz.prog 171 := ⟨_, Tryz.func171, by kernel_rfl, rfl⟩
theorem impl_PlanFault_1.ok (k : Nat) (a0 : Int) (a1 : S45) (r : Bool) (h : impl_PlanFault_1.f k a0 a1 = some r) : VCalls Tryz.prog 171 [.c (.sc (.int .i64 a0)), .ptr [.sc (.int .i64 a1.f0), .sc (.int .i64 a1.f1), R 1 e72 z72 a1.f2]] [.c (.p (.sc (.bool r)))] := by
  unfold impl_PlanFault_1.f at h
  refine VCalls.of (fn := Tryz.f171) (N := 8) Tryz.func171 rfl rfl (fun w0 => ?_)
  obtain ⟨t541, g1700, h⟩ := bindN h
  let C1700 := mkCon (impl_MeetAt.ok k a1.f2 a0 t541 g1700) impl_MeetAt.go
  cases h
  exact byRet MX Tryz.func171 1000 [.call C1700, .fin] (oa (sc_ C1700) on) (by kernel_rfl)

/-! ### impl_someTime_3: function 170 -/
def impl_someTime_3.h0T (a0 : Int) (gi1 : FuncId) (u1_0_0 : V) (u1_0_1 : V) (u1_0_2 : V) (v543 : Int) : List (Nat × AV) := [(0, .t (.c (.p false (.sc (.int .i64 a0))))), (1, .bfn gi1 [[u1_0_0, u1_0_1, u1_0_2]]), (5, .t (.c (.p true (.sc (.int .i64 v543)))))]
def impl_someTime_3.h0H (a0 : Int) (gi1 : FuncId) (u1_0_0 : V) (u1_0_1 : V) (u1_0_2 : V) (v543 : Int) : List (Nat × Content) := []
def impl_someTime_3.l0 : Nat → Int → (Int → Option Bool) → Int → Option Bool
  | 0, _, _, _ => none
  | kq + 1, a0, p1, v543 => if v543 < a0 then ((p1 v543).bind fun t544 => if t544 = true then (some true) else (impl_someTime_3.l0 kq a0 p1 (w64 (v543 + 1)))) else (some false)
def impl_someTime_3.f (k : Nat) (a0 : Int) (p1 : Int → Option Bool) : Option Bool := impl_someTime_3.l0 k a0 p1 0
theorem impl_someTime_3.go : Callable Tryz.prog 170 := ⟨_, Tryz.func170, by kernel_rfl, rfl⟩
theorem impl_someTime_3.ok (k : Nat) (a0 : Int) (p1 : Int → Option Bool) (gi1 : FuncId) (u1_0_0 u1_0_1 u1_0_2 : V) (hp1 : ∀ x0 r, p1 x0 = some r → VCalls Tryz.prog gi1 [.c (.sc (.int .i64 x0)), .ptr [u1_0_0, u1_0_1, u1_0_2]] [.c (.p (.sc (.bool r)))]) (go1 : Callable Tryz.prog gi1) (r : Bool) (h : impl_someTime_3.f k a0 p1 = some r) : VCalls Tryz.prog 170 [.c (.sc (.int .i64 a0)), .fn gi1 [[u1_0_0, u1_0_1, u1_0_2]]] [.c (.p (.sc (.bool r)))] := by
  unfold impl_someTime_3.f at h
  refine VCalls.of (fn := Tryz.f170) (N := 14) Tryz.func170 rfl rfl (fun w0 => ?_)
  have H0 : ∀ (kq : Nat) (v543 : Int), impl_someTime_3.l0 kq a0 p1 v543 = some r → AG Tryz.prog 170 14 [.c (.p (.sc (.bool r)))] w0 (headStk (codeOf Tryz.f170) 0) (mkFS (impl_someTime_3.h0T a0 gi1 u1_0_0 u1_0_1 u1_0_2 v543) (impl_someTime_3.h0H a0 gi1 u1_0_0 u1_0_1 u1_0_2 v543)) := by
    intro kq
    induction kq with
    | zero => intro v543 h; cases h
    | succ kq ih =>
      intro v543 h
      rw [impl_someTime_3.l0] at h
      by_cases c1705 : v543 < a0
      · replace h := (if_pos c1705).symm.trans h
        obtain ⟨t544, g1706, h⟩ := bindN h
        let C1706 := mkCon (hp1 v543 t544 g1706) go1
        by_cases c1707 : t544 = true
        · replace h := (if_pos c1707).symm.trans h
          cases h
          exact byRet MX Tryz.func170 1000 [.b true, .call C1706, .b true, .fin] (o1 (decide_eq_true c1705) (oa (sc_ C1706) (o1 c1707 on))) (by kernel_rfl)
        · replace h := (if_neg c1707).symm.trans h
          exact byHead MX Tryz.func170 1000 [.b true, .call C1706, .b false, .fin] (o1 (decide_eq_true c1705) (oa (sc_ C1706) (o1 (eqf c1707) on))) (ih (w64 (v543 + 1)) h) (by kernel_rfl)
      · replace h := (if_neg c1705).symm.trans h
        cases h
        exact byRet MX Tryz.func170 1000 [.b false, .fin, .fin] (o1 (decide_eq_false c1705) on) (by kernel_rfl)
  exact byHead MX Tryz.func170 1000 [.fin] on (H0 k 0 h) (by kernel_rfl)

/-! ### impl_nextOf_1: function 239 -/
def impl_nextOf_1.f (a0 : S72) (a1 : Int) (a2 : S72) : Option Bool := if 0 ≤ a1 then (if a1 < (a0.f0.length : Int) then (if 0 ≤ (w64 (a1 + 1)) then (if (w64 (a1 + 1)) < (a2.f0.length : Int) then (some (decide ((rdD 0 a0.f0 a1) = (rdD 0 a2.f0 (w64 (a1 + 1)))))) else none) else none) else none) else none
theorem impl_nextOf_1.go : Callable Tryz.prog 239 := ⟨_, Tryz.func239, by kernel_rfl, rfl⟩
theorem impl_nextOf_1.ok (a0 : S72) (a1 : Int) (a2 : S72) (r : Bool) (h : impl_nextOf_1.f a0 a1 a2 = some r) : VCalls Tryz.prog 239 [.agg (e72 a0), .ptr [.sc (.int .i64 a1)], .ptr [R 1 (eI .i64) 0 a2.f0]] [.c (.p (.sc (.bool r)))] := by
  unfold impl_nextOf_1.f at h
  refine VCalls.of (fn := Tryz.f239) (N := 17) Tryz.func239 rfl rfl (fun w0 => ?_)
  obtain ⟨c1715, h⟩ := ifN h
  obtain ⟨c1716, h⟩ := ifN h
  obtain ⟨c1717, h⟩ := ifN h
  obtain ⟨c1718, h⟩ := ifN h
  cases h
  exact byRet MX Tryz.func239 1000 [.fin] (o1 c1715 (o1 c1716 (o1 c1717 (o1 c1718 on)))) (by kernel_rfl)

/-! ### slices_IndexFunc_impl_Way_impl_Way_1_1: function 236 -/
def slices_IndexFunc_impl_Way_impl_Way_1_1.h0T (a0 : List S72) (gi1 : FuncId) (u1_0_0 : V) (u1_1_0 : V) (v549 : Int) : List (Nat × AV) := [(0, .t (.c (.p false (R 1 e72 z72 a0)))), (1, .bfn gi1 [[u1_0_0], [u1_1_0]]), (7, .t (.c (.p true (.sc (.int .i64 (a0.length : Int)))))), (8, .t (.c (.p true (.sc (.int .i64 v549)))))]
def slices_IndexFunc_impl_Way_impl_Way_1_1.h0H (a0 : List S72) (gi1 : FuncId) (u1_0_0 : V) (u1_1_0 : V) (v549 : Int) : List (Nat × Content) := []
def slices_IndexFunc_impl_Way_impl_Way_1_1.l0 : Nat → List S72 → (S72 → Option Bool) → Int → Option Int
  | 0, _, _, _ => none
  | kq + 1, a0, p1, v549 => if v549 < (a0.length : Int) then (if 0 ≤ v549 then ((p1 (rdD z72 a0 v549)).bind fun t550 => if t550 = true then (some v549) else (slices_IndexFunc_impl_Way_impl_Way_1_1.l0 kq a0 p1 (w64 (v549 + 1)))) else none) else (some (-1))
def slices_IndexFunc_impl_Way_impl_Way_1_1.f (k : Nat) (a0 : List S72) (p1 : S72 → Option Bool) : Option Int := slices_IndexFunc_impl_Way_impl_Way_1_1.l0 k a0 p1 0
theorem slices_IndexFunc_impl_Way_impl_Way_1_1.go : Callable Tryz.prog 236 := ⟨_, Tryz.func236, by kernel_rfl, rfl⟩
theorem slices_IndexFunc_impl_Way_impl_Way_1_1.ok (k : Nat) (a0 : List S72) (p1 : S72 → Option Bool) (gi1 : FuncId) (u1_0_0 u1_1_0 : V) (hp1 : ∀ x0 r, p1 x0 = some r → VCalls Tryz.prog gi1 [.agg (e72 x0), .ptr [u1_0_0], .ptr [u1_1_0]] [.c (.p (.sc (.bool r)))]) (go1 : Callable Tryz.prog gi1) (r : Int) (h : slices_IndexFunc_impl_Way_impl_Way_1_1.f k a0 p1 = some r) : VCalls Tryz.prog 236 [.c (R 1 e72 z72 a0), .fn gi1 [[u1_0_0], [u1_1_0]]] [.c (.p (.sc (.int .i64 r)))] := by
  unfold slices_IndexFunc_impl_Way_impl_Way_1_1.f at h
  refine VCalls.of (fn := Tryz.f236) (N := 19) Tryz.func236 rfl rfl (fun w0 => ?_)
  have H0 : ∀ (kq : Nat) (v549 : Int), slices_IndexFunc_impl_Way_impl_Way_1_1.l0 kq a0 p1 v549 = some r → AG Tryz.prog 236 19 [.c (.p (.sc (.int .i64 r)))] w0 (headStk (codeOf Tryz.f236) 0) (mkFS (slices_IndexFunc_impl_Way_impl_Way_1_1.h0T a0 gi1 u1_0_0 u1_1_0 v549) (slices_IndexFunc_impl_Way_impl_Way_1_1.h0H a0 gi1 u1_0_0 u1_1_0 v549)) := by
    intro kq
    induction kq with
    | zero => intro v549 h; cases h
    | succ kq ih =>
      intro v549 h
      rw [slices_IndexFunc_impl_Way_impl_Way_1_1.l0] at h
      by_cases c1723 : v549 < (a0.length : Int)
      · replace h := (if_pos c1723).symm.trans h
        obtain ⟨c1724, h⟩ := ifN h
        obtain ⟨t550, g1725, h⟩ := bindN h
        let C1725 := mkCon (hp1 (rdD z72 a0 v549) t550 g1725) go1
        by_cases c1726 : t550 = true
        · replace h := (if_pos c1726).symm.trans h
          cases h
          exact byRet MX Tryz.func236 1000 [.b true, .call C1725, .b true, .fin] (o1 (decide_eq_true c1723) (o1 c1724 (o1 c1723 (oa (sc_ C1725) (o1 c1726 on))))) (by kernel_rfl)
        · replace h := (if_neg c1726).symm.trans h
          exact byHead MX Tryz.func236 1000 [.b true, .call C1725, .b false, .fin] (o1 (decide_eq_true c1723) (o1 c1724 (o1 c1723 (oa (sc_ C1725) (o1 (eqf c1726) on))))) (ih (w64 (v549 + 1)) h) (by kernel_rfl)
      · replace h := (if_neg c1723).symm.trans h
        cases h
        exact byRet MX Tryz.func236 1000 [.b false, .fin, .fin] (o1 (decide_eq_false c1723) on) (by kernel_rfl)
  exact byHead MX Tryz.func236 1000 [.fin] on (H0 k 0 h) (by kernel_rfl)

/-! ### impl_nextOf: function 216 -/
def impl_nextOf.h0T (a0 : List S72) (v556 : Int) (a1 : Int) (v555 : List Int) : List (Nat × AV) := [(0, .t (.c (.p false (R 1 e72 z72 a0)))), (3, .ptr 192 0), (5, .t (.c (.h 320320))), (17, .t (.c (.p false (R 1 e72 z72 a0)))), (18, .t (.c (.p true (.sc (.int .i64 (a0.length : Int)))))), (19, .t (.c (.p true (.sc (.int .i64 v556)))))]
def impl_nextOf.h0H (a0 : List S72) (v556 : Int) (a1 : Int) (v555 : List Int) : List (Nat × Content) := [(192, .box 3 [.p false (.sc (.int .i64 a1))]), (320320, .row 3 1 v555.length (fun j => (eI .i64) (v555.getD j 0)) true)]
def impl_nextOf.l0 : Nat → List S72 → Int → List Int → Int → Option (List Int)
  | 0, _, _, _, _ => none
  | kq + 1, a0, a1, v555, v556 => if v556 < (a0.length : Int) then (if 0 ≤ v556 then ((slices_IndexFunc_impl_Way_impl_Way_1_1.f kq a0 (fun x1740 => impl_nextOf_1.f x1740 a1 (rdD z72 a0 v556))).bind fun t557 => if (v555.length + 1) * 8 ≤ 140737488355328 then (impl_nextOf.l0 kq a0 a1 (v555 ++ [t557]) (w64 (v556 + 1))) else none) else none) else (some v555)
def impl_nextOf.f (k : Nat) (a0 : List S72) (a1 : Int) : Option (List Int) := (impl_LevelWays.f k a0 a1).bind fun t546 => if t546 = true then ((impl_MeetAt.f k a0 a1).bind fun t547 => if t547 = true then (some ([] : List Int)) else (impl_nextOf.l0 k a0 a1 ([] : List Int) 0)) else (some ([] : List Int))
theorem impl_nextOf.go : Callable Tryz.prog 216 := ⟨_, Tryz.func216, by kernel_rfl, rfl⟩
theorem impl_nextOf.ok (k : Nat) (a0 : List S72) (a1 : Int) (r : (List Int)) (h : impl_nextOf.f k a0 a1 = some r) : VCalls Tryz.prog 216 [.c (R 1 e72 z72 a0), .c (.sc (.int .i64 a1))] [.c (.own 3 1 r.length (fun j => (eI .i64) (r.getD j 0)))] := by
  unfold impl_nextOf.f at h
  refine VCalls.of (fn := Tryz.f216) (N := 31) Tryz.func216 rfl rfl (fun w0 => ?_)
  obtain ⟨t546, g1710, h⟩ := bindN h
  let C1710 := mkCon (impl_LevelWays.ok k a0 a1 t546 g1710) impl_LevelWays.go
  by_cases c1711 : t546 = true
  · replace h := (if_pos c1711).symm.trans h
    obtain ⟨t547, g1712, h⟩ := bindN h
    let C1712 := mkCon (impl_MeetAt.ok k a0 a1 t547 g1712) impl_MeetAt.go
    by_cases c1713 : t547 = true
    · replace h := (if_pos c1713).symm.trans h
      cases h
      exact byRet MX Tryz.func216 1000 [.call C1710, .dec 12 false, .call C1712, .b true, .fin, .nil 4 384256 3 1, orow 384256 (eI .i64) 0 ([] : List Int)] (oa (sc_ C1710) (o1 (bnf c1711) (oa (sc_ C1712) (o1 c1713 (o1 (GE.nil (eI .i64) 0) on))))) (by kernel_rfl)
    · replace h := (if_neg c1713).symm.trans h
      have H0 : ∀ (kq : Nat) (v555 : List Int) (v556 : Int), impl_nextOf.l0 kq a0 a1 v555 v556 = some r → AG Tryz.prog 216 31 [.c (.own 3 1 r.length (fun j => (eI .i64) (r.getD j 0)))] w0 (headStk (codeOf Tryz.f216) 0) (mkFS (impl_nextOf.h0T a0 v556 a1 v555) (impl_nextOf.h0H a0 v556 a1 v555)) := by
        intro kq
        induction kq with
        | zero => intro v555 v556 h; cases h
        | succ kq ih =>
          intro v555 v556 h
          rw [impl_nextOf.l0] at h
          by_cases c1738 : v556 < (a0.length : Int)
          · replace h := (if_pos c1738).symm.trans h
            obtain ⟨c1739, h⟩ := ifN h
            obtain ⟨t557, g1741, h⟩ := bindN h
            let C1741 := mkCon (slices_IndexFunc_impl_Way_impl_Way_1_1.ok kq a0 (fun x1740 => impl_nextOf_1.f x1740 a1 (rdD z72 a0 v556)) 239 (.sc (.int .i64 a1)) (R 1 (eI .i64) 0 ((rdD z72 a0 v556).f0)) (fun x1740 r h => impl_nextOf_1.ok x1740 a1 (rdD z72 a0 v556) r h) impl_nextOf_1.go t557 g1741) slices_IndexFunc_impl_Way_impl_Way_1_1.go
            obtain ⟨c1742, h⟩ := ifN h
            exact byHead MX Tryz.func216 1000 [.b true, .call C1741, rowe 27 (eI .i64) 0 ([t557]), .aft 28, orow 320320 (eI .i64) 0 (v555 ++ [t557]), .fin] (o1 (decide_eq_true c1738) (o1 c1739 (o1 c1738 (oa (sc_ C1741) (o1 (GE.lit 1 (eI .i64) 0 [t557] (by intro x; rfl)) (o1 c1742 (o1 (GE.app (e := (eI .i64)) (d := 0) v555 ([t557]) rfl (fun _ _ => CE.refl _) rfl) on))))))) (ih (v555 ++ [t557]) (w64 (v556 + 1)) h) (by kernel_rfl)
          · replace h := (if_neg c1738).symm.trans h
            cases h
            exact byRet MX Tryz.func216 1000 [.b false, .fin, .fin] (o1 (decide_eq_false c1738) on) (by kernel_rfl)
      exact byHead MX Tryz.func216 1000 [.call C1710, .dec 12 false, .call C1712, .b false, .fin, .nil 5 320320 3 1, orow 320320 (eI .i64) 0 ([] : List Int)] (oa (sc_ C1710) (o1 (bnf c1711) (oa (sc_ C1712) (o1 (eqf c1713) (o1 (GE.nil (eI .i64) 0) on))))) (H0 k ([] : List Int) 0 h) (by kernel_rfl)
  · replace h := (if_neg c1711).symm.trans h
    cases h
    exact byRet MX Tryz.func216 1000 [.call C1710, .dec 12 true, .b true, .fin, .nil 4 384256 3 1, orow 384256 (eI .i64) 0 ([] : List Int)] (oa (sc_ C1710) (o1 (bnt (eqf c1711)) (o1 (rfl : true = true) (o1 (GE.nil (eI .i64) 0) on)))) (by kernel_rfl)

/-! ### impl_ringOf: function 217 -/
def impl_ringOf.h0T (a0 : List Int) (a1 : Int) (v560 : Int) (v561 : Int) : List (Nat × AV) := [(0, .t (.c (.p false (R 1 (eI .i64) 0 a0)))), (1, .t (.c (.p false (.sc (.int .i64 a1))))), (5, .t (.c (.p true (.sc (.int .i64 v560))))), (6, .t (.c (.p false (.sc (.int .i64 v561)))))]
def impl_ringOf.h0H (a0 : List Int) (a1 : Int) (v560 : Int) (v561 : Int) : List (Nat × Content) := []
def impl_ringOf.l0 : Nat → Int → List Int → Int → Int → Option Int
  | 0, _, _, _, _ => none
  | kq + 1, a1, a0, v560, v561 => if v561 = a1 then (some v560) else (if v561 < 0 then (some 0) else (if (a0.length : Int) < v560 then (some 0) else (if 0 ≤ v561 then (if v561 < (a0.length : Int) then (impl_ringOf.l0 kq a1 a0 (w64 (v560 + 1)) (rdD 0 a0 v561)) else none) else none)))
def impl_ringOf.f (k : Nat) (a0 : List Int) (a1 : Int) : Option Int := if 0 ≤ a1 then (if a1 < (a0.length : Int) then (impl_ringOf.l0 k a1 a0 1 (rdD 0 a0 a1)) else none) else none
theorem impl_ringOf.go : Callable Tryz.prog 217 := ⟨_, Tryz.func217, by kernel_rfl, rfl⟩
theorem impl_ringOf.ok (k : Nat) (a0 : List Int) (a1 : Int) (r : Int) (h : impl_ringOf.f k a0 a1 = some r) : VCalls Tryz.prog 217 [.c (R 1 (eI .i64) 0 a0), .c (.sc (.int .i64 a1))] [.c (.p (.sc (.int .i64 r)))] := by
  unfold impl_ringOf.f at h
  refine VCalls.of (fn := Tryz.f217) (N := 29) Tryz.func217 rfl rfl (fun w0 => ?_)
  obtain ⟨c1745, h⟩ := ifN h
  obtain ⟨c1746, h⟩ := ifN h
  have H0 : ∀ (kq : Nat) (v560 : Int) (v561 : Int), impl_ringOf.l0 kq a1 a0 v560 v561 = some r → AG Tryz.prog 217 29 [.c (.p (.sc (.int .i64 r)))] w0 (headStk (codeOf Tryz.f217) 0) (mkFS (impl_ringOf.h0T a0 a1 v560 v561) (impl_ringOf.h0H a0 a1 v560 v561)) := by
    intro kq
    induction kq with
    | zero => intro v560 v561 h; cases h
    | succ kq ih =>
      intro v560 v561 h
      rw [impl_ringOf.l0] at h
      by_cases c1757 : v561 = a1
      · replace h := (if_pos c1757).symm.trans h
        cases h
        exact byRet MX Tryz.func217 1000 [.b false, .fin, .fin] (o1 (bnf (decide_eq_true c1757)) on) (by kernel_rfl)
      · replace h := (if_neg c1757).symm.trans h
        by_cases c1758 : v561 < 0
        · replace h := (if_pos c1758).symm.trans h
          cases h
          exact byRet MX Tryz.func217 1000 [.b true, .dec 20 true, .b true, .fin] (o1 (bnt (decide_eq_false c1757)) (o1 (decide_eq_true c1758) (o1 (rfl : true = true) on))) (by kernel_rfl)
        · replace h := (if_neg c1758).symm.trans h
          by_cases c1759 : (a0.length : Int) < v560
          · replace h := (if_pos c1759).symm.trans h
            cases h
            exact byRet MX Tryz.func217 1000 [.b true, .dec 20 false, .b true, .fin] (o1 (bnt (decide_eq_false c1757)) (o1 (decide_eq_false c1758) (o1 (decide_eq_true c1759) on))) (by kernel_rfl)
          · replace h := (if_neg c1759).symm.trans h
            obtain ⟨c1760, h⟩ := ifN h
            obtain ⟨c1761, h⟩ := ifN h
            exact byHead MX Tryz.func217 1000 [.b true, .dec 20 false, .b false, .fin] (o1 (bnt (decide_eq_false c1757)) (o1 (decide_eq_false c1758) (o1 (decide_eq_false c1759) (o1 c1760 (o1 c1761 on))))) (ih (w64 (v560 + 1)) (rdD 0 a0 v561) h) (by kernel_rfl)
  exact byHead MX Tryz.func217 1000 [.fin] (o1 c1745 (o1 c1746 on)) (H0 k 1 (rdD 0 a0 a1) h) (by kernel_rfl)

/-! ### impl_SwapsAt: function 174 -/
def impl_SwapsAt.h0T (v566 : Int) (t558 : List Int) (v565 : Int) : List (Nat × AV) := [(5, .t (.c (.h 640))), (6, .t (.c (.p true (.sc (.int .i64 v566))))), (12, .t (.c (.p true (.sc (.int .i64 (t558.length : Int)))))), (13, .t (.c (.p true (.sc (.int .i64 v565)))))]
def impl_SwapsAt.h0H (v566 : Int) (t558 : List Int) (v565 : Int) : List (Nat × Content) := [(640, .row 3 1 t558.length (fun j => (eI .i64) (t558.getD j 0)) true)]
def impl_SwapsAt.l0 : Nat → List Int → Int → Int → Option Int
  | 0, _, _, _ => none
  | kq + 1, t558, v565, v566 => if v565 < (t558.length : Int) then ((impl_ringOf.f kq t558 v565).bind fun t567 => if t567 = 2 then (impl_SwapsAt.l0 kq t558 (w64 (v565 + 1)) (w64 (v566 + 1))) else (impl_SwapsAt.l0 kq t558 (w64 (v565 + 1)) v566)) else (some (w64 (v566.tdiv 2)))
def impl_SwapsAt.f (k : Nat) (a0 : List S72) (a1 : Int) : Option Int := (impl_nextOf.f k a0 a1).bind fun t558 => impl_SwapsAt.l0 k t558 0 0
theorem impl_SwapsAt.go : Callable Tryz.prog 174 := ⟨_, Tryz.func174, by kernel_rfl, rfl⟩
theorem impl_SwapsAt.ok (k : Nat) (a0 : List S72) (a1 : Int) (r : Int) (h : impl_SwapsAt.f k a0 a1 = some r) : VCalls Tryz.prog 174 [.c (R 1 e72 z72 a0), .c (.sc (.int .i64 a1))] [.c (.p (.sc (.int .i64 r)))] := by
  unfold impl_SwapsAt.f at h
  refine VCalls.of (fn := Tryz.f174) (N := 25) Tryz.func174 rfl rfl (fun w0 => ?_)
  obtain ⟨t558, g1743, h⟩ := bindN h
  let C1743 := mkCon (impl_nextOf.ok k a0 a1 t558 g1743) impl_nextOf.go
  have H0 : ∀ (kq : Nat) (v565 : Int) (v566 : Int), impl_SwapsAt.l0 kq t558 v565 v566 = some r → AG Tryz.prog 174 25 [.c (.p (.sc (.int .i64 r)))] w0 (headStk (codeOf Tryz.f174) 0) (mkFS (impl_SwapsAt.h0T v566 t558 v565) (impl_SwapsAt.h0H v566 t558 v565)) := by
    intro kq
    induction kq with
    | zero => intro v565 v566 h; cases h
    | succ kq ih =>
      intro v565 v566 h
      rw [impl_SwapsAt.l0] at h
      by_cases c1767 : v565 < (t558.length : Int)
      · replace h := (if_pos c1767).symm.trans h
        obtain ⟨t567, g1768, h⟩ := bindN h
        let C1768 := mkCon (impl_ringOf.ok kq t558 v565 t567 g1768) impl_ringOf.go
        by_cases c1769 : t567 = 2
        · replace h := (if_pos c1769).symm.trans h
          exact byHead MX Tryz.func174 1000 [.b true, .call C1768, .b true, .fin] (o1 (decide_eq_true c1767) (oa (sc_ C1768) (o1 (decide_eq_true c1769) on))) (ih (w64 (v565 + 1)) (w64 (v566 + 1)) h) (by kernel_rfl)
        · replace h := (if_neg c1769).symm.trans h
          exact byHead MX Tryz.func174 1000 [.b true, .call C1768, .b false, .fin] (o1 (decide_eq_true c1767) (oa (sc_ C1768) (o1 (decide_eq_false c1769) on))) (ih (w64 (v565 + 1)) v566 h) (by kernel_rfl)
      · replace h := (if_neg c1767).symm.trans h
        cases h
        exact byRet MX Tryz.func174 1000 [.b false, .fin, .fin] (o1 (decide_eq_false c1767) (o1 (by decide : (2 : Int) ≠ 0) on)) (by kernel_rfl)
  exact byHead MX Tryz.func174 1000 [.call C1743, .fin] (oa (sc_ C1743) on) (H0 k 0 0 h) (by kernel_rfl)

/-! ### impl_PlanFault_2: function 173 -/
def impl_PlanFault_2.f (k : Nat) (a0 : Int) (a1 : S45) : Option Bool := (impl_SwapsAt.f k a1.f2 a0).bind fun t568 => some (!decide (t568 = 0))
theorem impl_PlanFault_2.go : Callable Tryz.prog 173 := ⟨_, Tryz.func173, by kernel_rfl, rfl⟩
theorem impl_PlanFault_2.ok (k : Nat) (a0 : Int) (a1 : S45) (r : Bool) (h : impl_PlanFault_2.f k a0 a1 = some r) : VCalls Tryz.prog 173 [.c (.sc (.int .i64 a0)), .ptr [.sc (.int .i64 a1.f0), .sc (.int .i64 a1.f1), R 1 e72 z72 a1.f2]] [.c (.p (.sc (.bool r)))] := by
  unfold impl_PlanFault_2.f at h
  refine VCalls.of (fn := Tryz.f173) (N := 9) Tryz.func173 rfl rfl (fun w0 => ?_)
  obtain ⟨t568, g1770, h⟩ := bindN h
  let C1770 := mkCon (impl_SwapsAt.ok k a1.f2 a0 t568 g1770) impl_SwapsAt.go
  cases h
  exact byRet MX Tryz.func173 1000 [.call C1770, .fin] (oa (sc_ C1770) on) (by kernel_rfl)

/-! ### impl_RingsAt: function 176 -/
def impl_RingsAt.h0T (v575 : Int) (t570 : List Int) (v574 : Int) : List (Nat × AV) := [(5, .t (.c (.h 640))), (6, .t (.c (.p true (.sc (.int .i64 v575))))), (12, .t (.c (.p true (.sc (.int .i64 (t570.length : Int)))))), (13, .t (.c (.p true (.sc (.int .i64 v574)))))]
def impl_RingsAt.h0H (v575 : Int) (t570 : List Int) (v574 : Int) : List (Nat × Content) := [(640, .row 3 1 t570.length (fun j => (eI .i64) (t570.getD j 0)) true)]
def impl_RingsAt.l0 : Nat → List Int → Int → Int → Option Int
  | 0, _, _, _ => none
  | kq + 1, t570, v574, v575 => if v574 < (t570.length : Int) then ((impl_ringOf.f kq t570 v574).bind fun t576 => if 2 < t576 then (impl_RingsAt.l0 kq t570 (w64 (v574 + 1)) (w64 (v575 + 1))) else (impl_RingsAt.l0 kq t570 (w64 (v574 + 1)) v575)) else (some v575)
def impl_RingsAt.f (k : Nat) (a0 : List S72) (a1 : Int) : Option Int := (impl_nextOf.f k a0 a1).bind fun t570 => impl_RingsAt.l0 k t570 0 0
theorem impl_RingsAt.go : Callable Tryz.prog 176 := ⟨_, Tryz.func176, by kernel_rfl, rfl⟩
theorem impl_RingsAt.ok (k : Nat) (a0 : List S72) (a1 : Int) (r : Int) (h : impl_RingsAt.f k a0 a1 = some r) : VCalls Tryz.prog 176 [.c (R 1 e72 z72 a0), .c (.sc (.int .i64 a1))] [.c (.p (.sc (.int .i64 r)))] := by
  unfold impl_RingsAt.f at h
  refine VCalls.of (fn := Tryz.f176) (N := 24) Tryz.func176 rfl rfl (fun w0 => ?_)
  obtain ⟨t570, g1774, h⟩ := bindN h
  let C1774 := mkCon (impl_nextOf.ok k a0 a1 t570 g1774) impl_nextOf.go
  have H0 : ∀ (kq : Nat) (v574 : Int) (v575 : Int), impl_RingsAt.l0 kq t570 v574 v575 = some r → AG Tryz.prog 176 24 [.c (.p (.sc (.int .i64 r)))] w0 (headStk (codeOf Tryz.f176) 0) (mkFS (impl_RingsAt.h0T v575 t570 v574) (impl_RingsAt.h0H v575 t570 v574)) := by
    intro kq
    induction kq with
    | zero => intro v574 v575 h; cases h
    | succ kq ih =>
      intro v574 v575 h
      rw [impl_RingsAt.l0] at h
      by_cases c1781 : v574 < (t570.length : Int)
      · replace h := (if_pos c1781).symm.trans h
        obtain ⟨t576, g1782, h⟩ := bindN h
        let C1782 := mkCon (impl_ringOf.ok kq t570 v574 t576 g1782) impl_ringOf.go
        by_cases c1783 : 2 < t576
        · replace h := (if_pos c1783).symm.trans h
          exact byHead MX Tryz.func176 1000 [.b true, .call C1782, .b true, .fin] (o1 (decide_eq_true c1781) (oa (sc_ C1782) (o1 (decide_eq_true c1783) on))) (ih (w64 (v574 + 1)) (w64 (v575 + 1)) h) (by kernel_rfl)
        · replace h := (if_neg c1783).symm.trans h
          exact byHead MX Tryz.func176 1000 [.b true, .call C1782, .b false, .fin] (o1 (decide_eq_true c1781) (oa (sc_ C1782) (o1 (decide_eq_false c1783) on))) (ih (w64 (v574 + 1)) v575 h) (by kernel_rfl)
      · replace h := (if_neg c1781).symm.trans h
        cases h
        exact byRet MX Tryz.func176 1000 [.b false, .fin, .fin] (o1 (decide_eq_false c1781) on) (by kernel_rfl)
  exact byHead MX Tryz.func176 1000 [.call C1774, .fin] (oa (sc_ C1774) on) (H0 k 0 0 h) (by kernel_rfl)

/-! ### impl_PlanFault_3: function 175 -/
def impl_PlanFault_3.f (k : Nat) (a0 : Int) (a1 : S45) : Option Bool := (impl_RingsAt.f k a1.f2 a0).bind fun t577 => some (!decide (t577 = 0))
theorem impl_PlanFault_3.go : Callable Tryz.prog 175 := ⟨_, Tryz.func175, by kernel_rfl, rfl⟩
theorem impl_PlanFault_3.ok (k : Nat) (a0 : Int) (a1 : S45) (r : Bool) (h : impl_PlanFault_3.f k a0 a1 = some r) : VCalls Tryz.prog 175 [.c (.sc (.int .i64 a0)), .ptr [.sc (.int .i64 a1.f0), .sc (.int .i64 a1.f1), R 1 e72 z72 a1.f2]] [.c (.p (.sc (.bool r)))] := by
  unfold impl_PlanFault_3.f at h
  refine VCalls.of (fn := Tryz.f175) (N := 9) Tryz.func175 rfl rfl (fun w0 => ?_)
  obtain ⟨t577, g1784, h⟩ := bindN h
  let C1784 := mkCon (impl_RingsAt.ok k a1.f2 a0 t577 g1784) impl_RingsAt.go
  cases h
  exact byRet MX Tryz.func175 1000 [.call C1784, .fin] (oa (sc_ C1784) on) (by kernel_rfl)

/-! ### impl_PlanFault_4: function 177 -/
def impl_PlanFault_4.f (k : Nat) (a0 : Int) (a1 : List Int) : Option Bool := (slices_Contains_int_int.f k a1 a0).bind fun t579 => some (!t579)
theorem impl_PlanFault_4.go : Callable Tryz.prog 177 := ⟨_, Tryz.func177, by kernel_rfl, rfl⟩
theorem impl_PlanFault_4.ok (k : Nat) (a0 : Int) (a1 : List Int) (r : Bool) (h : impl_PlanFault_4.f k a0 a1 = some r) : VCalls Tryz.prog 177 [.c (.sc (.int .i64 a0)), .ptr [R 1 (eI .i64) 0 a1]] [.c (.p (.sc (.bool r)))] := by
  unfold impl_PlanFault_4.f at h
  refine VCalls.of (fn := Tryz.f177) (N := 8) Tryz.func177 rfl rfl (fun w0 => ?_)
  obtain ⟨t579, g1788, h⟩ := bindN h
  let C1788 := mkCon (slices_Contains_int_int.ok k a1 a0 t579 g1788) slices_Contains_int_int.go
  cases h
  exact byRet MX Tryz.func177 1000 [.call C1788, .fin] (oa (sc_ C1788) on) (by kernel_rfl)

/-! ### slices_IndexFunc_int_int_1: function 182 -/
def slices_IndexFunc_int_int_1.h0T (a0 : List Int) (gi1 : FuncId) (u1_0_0 : V) (v581 : Int) : List (Nat × AV) := [(0, .t (.c (.p false (R 1 (eI .i64) 0 a0)))), (1, .bfn gi1 [[u1_0_0]]), (7, .t (.c (.p true (.sc (.int .i64 (a0.length : Int)))))), (8, .t (.c (.p true (.sc (.int .i64 v581)))))]
def slices_IndexFunc_int_int_1.h0H (a0 : List Int) (gi1 : FuncId) (u1_0_0 : V) (v581 : Int) : List (Nat × Content) := []
def slices_IndexFunc_int_int_1.l0 : Nat → List Int → (Int → Option Bool) → Int → Option Int
  | 0, _, _, _ => none
  | kq + 1, a0, p1, v581 => if v581 < (a0.length : Int) then (if 0 ≤ v581 then ((p1 (rdD 0 a0 v581)).bind fun t582 => if t582 = true then (some v581) else (slices_IndexFunc_int_int_1.l0 kq a0 p1 (w64 (v581 + 1)))) else none) else (some (-1))
def slices_IndexFunc_int_int_1.f (k : Nat) (a0 : List Int) (p1 : Int → Option Bool) : Option Int := slices_IndexFunc_int_int_1.l0 k a0 p1 0
theorem slices_IndexFunc_int_int_1.go : Callable Tryz.prog 182 := ⟨_, Tryz.func182, by kernel_rfl, rfl⟩
theorem slices_IndexFunc_int_int_1.ok (k : Nat) (a0 : List Int) (p1 : Int → Option Bool) (gi1 : FuncId) (u1_0_0 : V) (hp1 : ∀ x0 r, p1 x0 = some r → VCalls Tryz.prog gi1 [.c (.sc (.int .i64 x0)), .ptr [u1_0_0]] [.c (.p (.sc (.bool r)))]) (go1 : Callable Tryz.prog gi1) (r : Int) (h : slices_IndexFunc_int_int_1.f k a0 p1 = some r) : VCalls Tryz.prog 182 [.c (R 1 (eI .i64) 0 a0), .fn gi1 [[u1_0_0]]] [.c (.p (.sc (.int .i64 r)))] := by
  unfold slices_IndexFunc_int_int_1.f at h
  refine VCalls.of (fn := Tryz.f182) (N := 19) Tryz.func182 rfl rfl (fun w0 => ?_)
  have H0 : ∀ (kq : Nat) (v581 : Int), slices_IndexFunc_int_int_1.l0 kq a0 p1 v581 = some r → AG Tryz.prog 182 19 [.c (.p (.sc (.int .i64 r)))] w0 (headStk (codeOf Tryz.f182) 0) (mkFS (slices_IndexFunc_int_int_1.h0T a0 gi1 u1_0_0 v581) (slices_IndexFunc_int_int_1.h0H a0 gi1 u1_0_0 v581)) := by
    intro kq
    induction kq with
    | zero => intro v581 h; cases h
    | succ kq ih =>
      intro v581 h
      rw [slices_IndexFunc_int_int_1.l0] at h
      by_cases c1793 : v581 < (a0.length : Int)
      · replace h := (if_pos c1793).symm.trans h
        obtain ⟨c1794, h⟩ := ifN h
        obtain ⟨t582, g1795, h⟩ := bindN h
        let C1795 := mkCon (hp1 (rdD 0 a0 v581) t582 g1795) go1
        by_cases c1796 : t582 = true
        · replace h := (if_pos c1796).symm.trans h
          cases h
          exact byRet MX Tryz.func182 1000 [.b true, .call C1795, .b true, .fin] (o1 (decide_eq_true c1793) (o1 c1794 (o1 c1793 (oa (sc_ C1795) (o1 c1796 on))))) (by kernel_rfl)
        · replace h := (if_neg c1796).symm.trans h
          exact byHead MX Tryz.func182 1000 [.b true, .call C1795, .b false, .fin] (o1 (decide_eq_true c1793) (o1 c1794 (o1 c1793 (oa (sc_ C1795) (o1 (eqf c1796) on))))) (ih (w64 (v581 + 1)) h) (by kernel_rfl)
      · replace h := (if_neg c1793).symm.trans h
        cases h
        exact byRet MX Tryz.func182 1000 [.b false, .fin, .fin] (o1 (decide_eq_false c1793) on) (by kernel_rfl)
  exact byHead MX Tryz.func182 1000 [.fin] on (H0 k 0 h) (by kernel_rfl)
end Go.Proofs.YtoaknaceaghclaaGreat.V
