/- What each Go function computes, and that the machine does so: printed by a program of this session (avgen.py). -/
import Derived.Test.YtoaknaceaghclaaGreatV11
namespace Go.Proofs.YtoaknaceaghclaaGreat.V
open Go Go.Av Go.Proofs
set_option linter.unusedVariables false
set_option maxRecDepth 100000
/-! ### laws_heldOrderS: function 20 -/
def laws_heldOrderS.h0T (a0 : List S92) (v691 : Int) (v692 : Int) : List (Nat × AV) := [(0, .t (.c (.p false (R 3 e92 z92 a0)))), (1, .t (.c (.p false (.sc (.int .i64 v691))))), (5, .t (.c (.p true (.sc (.int .i64 v692)))))]
def laws_heldOrderS.h0H (a0 : List S92) (v691 : Int) (v692 : Int) : List (Nat × Content) := []
def laws_heldOrderS.l0 : Nat → List S92 → Int → Int → Option Int
  | 0, _, _, _ => none
  | kq + 1, a0, v691, v692 => if v692 < (a0.length : Int) then (if 0 ≤ v692 then (if (rdD z92 a0 v692).f0 = v691 then (if (rdD z92 a0 v692).f1 = (w64 (v691 + 1)) then (if (rdD z92 a0 v692).f2 = (w64 ((w64 (v691 + 1)) + 1)) then (laws_heldOrderS.l0 kq a0 (w64 ((w64 ((w64 (v691 + 1)) + 1)) + 1)) (w64 (v692 + 1))) else (some (-1))) else (some (-1))) else (some (-1))) else none) else (some v691)
def laws_heldOrderS.f (k : Nat) (a0 : List S92) (a1 : Int) : Option Int := laws_heldOrderS.l0 k a0 a1 0
theorem laws_heldOrderS.go : Callable Tryz.prog 20 := ⟨_, Tryz.func20, by kernel_rfl, rfl⟩
theorem laws_heldOrderS.ok (k : Nat) (a0 : List S92) (a1 : Int) (r : Int) (h : laws_heldOrderS.f k a0 a1 = some r) : VCalls Tryz.prog 20 [.c (R 3 e92 z92 a0), .c (.sc (.int .i64 a1))] [.c (.p (.sc (.int .i64 r)))] := by
  unfold laws_heldOrderS.f at h
  refine VCalls.of (fn := Tryz.f20) (N := 40) Tryz.func20 rfl rfl (fun w0 => ?_)
  have H0 : ∀ (kq : Nat) (v691 : Int) (v692 : Int), laws_heldOrderS.l0 kq a0 v691 v692 = some r → AG Tryz.prog 20 40 [.c (.p (.sc (.int .i64 r)))] w0 (headStk (codeOf Tryz.f20) 0) (mkFS (laws_heldOrderS.h0T a0 v691 v692) (laws_heldOrderS.h0H a0 v691 v692)) := by
    intro kq
    induction kq with
    | zero => intro v691 v692 h; cases h
    | succ kq ih =>
      intro v691 v692 h
      rw [laws_heldOrderS.l0] at h
      by_cases c2048 : v692 < (a0.length : Int)
      · replace h := (if_pos c2048).symm.trans h
        obtain ⟨c2049, h⟩ := ifN h
        by_cases c2050 : (rdD z92 a0 v692).f0 = v691
        · replace h := (if_pos c2050).symm.trans h
          by_cases c2051 : (rdD z92 a0 v692).f1 = (w64 (v691 + 1))
          · replace h := (if_pos c2051).symm.trans h
            by_cases c2052 : (rdD z92 a0 v692).f2 = (w64 ((w64 (v691 + 1)) + 1))
            · replace h := (if_pos c2052).symm.trans h
              exact byHead MX Tryz.func20 1000 [.b true, .b false, .b false, .b false, .fin] (o1 (decide_eq_true c2048) (o1 c2049 (o1 c2048 (o1 (bnf (decide_eq_true c2050)) (o1 c2049 (o1 c2048 (o1 (bnf (decide_eq_true c2051)) (o1 c2049 (o1 c2048 (o1 (bnf (decide_eq_true c2052)) on)))))))))) (ih (w64 ((w64 ((w64 (v691 + 1)) + 1)) + 1)) (w64 (v692 + 1)) h) (by kernel_rfl)
            · replace h := (if_neg c2052).symm.trans h
              cases h
              exact byRet MX Tryz.func20 1000 [.b true, .b false, .b false, .b true, .fin] (o1 (decide_eq_true c2048) (o1 c2049 (o1 c2048 (o1 (bnf (decide_eq_true c2050)) (o1 c2049 (o1 c2048 (o1 (bnf (decide_eq_true c2051)) (o1 c2049 (o1 c2048 (o1 (bnt (decide_eq_false c2052)) on)))))))))) (by kernel_rfl)
          · replace h := (if_neg c2051).symm.trans h
            cases h
            exact byRet MX Tryz.func20 1000 [.b true, .b false, .b true, .fin] (o1 (decide_eq_true c2048) (o1 c2049 (o1 c2048 (o1 (bnf (decide_eq_true c2050)) (o1 c2049 (o1 c2048 (o1 (bnt (decide_eq_false c2051)) on))))))) (by kernel_rfl)
        · replace h := (if_neg c2050).symm.trans h
          cases h
          exact byRet MX Tryz.func20 1000 [.b true, .b true, .fin] (o1 (decide_eq_true c2048) (o1 c2049 (o1 c2048 (o1 (bnt (decide_eq_false c2050)) on)))) (by kernel_rfl)
      · replace h := (if_neg c2048).symm.trans h
        cases h
        exact byRet MX Tryz.func20 1000 [.b false, .fin, .fin] (o1 (decide_eq_false c2048) on) (by kernel_rfl)
  exact byHead MX Tryz.func20 1000 [.fin] on (H0 k a1 0 h) (by kernel_rfl)

/-! ### laws_FnExactOrdersOf: function 4 -/
def laws_FnExactOrdersOf.f (k : Nat) (a0 : S35) : Option Bool := (laws_szYard.f k a0 1048576).bind fun t17 => if t17 < 0 then (some true) else ((laws_toYard.f k a0).bind fun t49 => (spec_OrdersOf.f k t49).bind fun t312 => (laws_toYard.f k a0).bind fun t313 => (impl_OrdersOf.f k t313).bind fun t619 => (laws_eqOrderS.f k t619 t312).bind fun t623 => if t623 = true then ((laws_toYard.f k a0).bind fun t624 => (laws_eqYard.f k t313 t624).bind fun t645 => if t645 = true then ((laws_markYard.f k t313 1).bind fun t681 => if t681.1 < 0 then (some false) else ((laws_eqOrderS.f k t619 t312).bind fun t682 => if t682 = true then ((laws_markOrderS.f k t619 1).bind fun t689 => (laws_heldOrderS.f k t689.2 1).bind fun t693 => if t693 < 0 then (some false) else (if t693 = t689.1 then ((laws_toYard.f k a0).bind fun t694 => (impl_OrdersOf.f k t694).bind fun t695 => (laws_eqOrderS.f k t695 t312).bind fun t696 => if t696 = true then ((laws_heldOrderS.f k t689.2 1).bind fun t697 => if t697 < 0 then (some false) else (if t697 = t689.1 then (some true) else (some false))) else (some false)) else (some false))) else (some false))) else (some false)) else (some false))
theorem laws_FnExactOrdersOf.go : Callable Tryz.prog 4 := ⟨_, Tryz.func4, by kernel_rfl, rfl⟩
theorem laws_FnExactOrdersOf.ok (k : Nat) (a0 : S35) (r : Bool) (h : laws_FnExactOrdersOf.f k a0 = some r) : VCalls Tryz.prog 4 [.agg (e35 a0)] [.c (.p (.sc (.bool r)))] := by
  unfold laws_FnExactOrdersOf.f at h
  refine VCalls.of (fn := Tryz.f4) (N := 69) Tryz.func4 rfl rfl (fun w0 => ?_)
  obtain ⟨t17, g36, h⟩ := bindN h
  let C36 := mkCon (laws_szYard.ok k a0 1048576 t17 g36) laws_szYard.go
  by_cases c37 : t17 < 0
  · replace h := (if_pos c37).symm.trans h
    cases h
    exact byRet MX Tryz.func4 1000 [.call C36, .b true, .fin] (oa (sc_ C36) (o1 (decide_eq_true c37) on)) (by kernel_rfl)
  · replace h := (if_neg c37).symm.trans h
    obtain ⟨t49, g97, h⟩ := bindN h
    let C97 := mkCon (laws_toYard.ok k a0 t49 g97) laws_toYard.go
    obtain ⟨t312, g973, h⟩ := bindN h
    let C973 := mkCon (spec_OrdersOf.ok k t49 t312 g973) spec_OrdersOf.go
    obtain ⟨t313, g974, h⟩ := bindN h
    let C974 := mkCon (laws_toYard.ok k a0 t313 g974) laws_toYard.go
    obtain ⟨t619, g1897, h⟩ := bindN h
    let C1897 := mkCon (impl_OrdersOf.ok k t313 t619 g1897) impl_OrdersOf.go
    obtain ⟨t623, g1911, h⟩ := bindN h
    let C1911 := mkCon (laws_eqOrderS.ok k t619 t312 t623 g1911) laws_eqOrderS.go
    by_cases c1912 : t623 = true
    · replace h := (if_pos c1912).symm.trans h
      obtain ⟨t624, g1913, h⟩ := bindN h
      let C1913 := mkCon (laws_toYard.ok k a0 t624 g1913) laws_toYard.go
      obtain ⟨t645, g1992, h⟩ := bindN h
      let C1992 := mkCon (laws_eqYard.ok k t313 t624 t645 g1992) laws_eqYard.go
      by_cases c1993 : t645 = true
      · replace h := (if_pos c1993).symm.trans h
        obtain ⟨t681, g2029, h⟩ := bindN h
        let C2029 := laws_markYard.con k t313 1 t681 g2029
        by_cases c2030 : t681.1 < 0
        · replace h := (if_pos c2030).symm.trans h
          cases h
          exact byRet MX Tryz.func4 1000 [.call C36, .b false, .call C97, .call C973, .call C974, .call C1897, .call C1911, .b false, .call C1913, .call C1992, .b false, .callW C2029 [(7, 1287), (10, 1290), (15, 1295), (16, 1296), (17, 1297)], .dec 37 true, .b true, .fin] (oa (sc_ C36) (o1 (decide_eq_false c37) (oa (sc_ C97) (oa (sc_ C973) (oa (sc_ C974) (oa (sc_ C1897) (oa (sc_ C1911) (o1 (bnf c1912) (oa (sc_ C1913) (oa (sc_ C1992) (o1 (bnf c1993) (oa (scw_ C2029) (o1 (decide_eq_true c2030) (o1 (rfl : true = true) on)))))))))))))) (by kernel_rfl)
        · replace h := (if_neg c2030).symm.trans h
          obtain ⟨t682, g2031, h⟩ := bindN h
          let C2031 := mkCon (laws_eqOrderS.ok k t619 t312 t682 g2031) laws_eqOrderS.go
          by_cases c2032 : t682 = true
          · replace h := (if_pos c2032).symm.trans h
            obtain ⟨t689, g2039, h⟩ := bindN h
            let C2039 := laws_markOrderS.con k t619 1 t689 g2039
            obtain ⟨t693, g2053, h⟩ := bindN h
            let C2053 := mkCon (laws_heldOrderS.ok k t689.2 1 t693 g2053) laws_heldOrderS.go
            by_cases c2054 : t693 < 0
            · replace h := (if_pos c2054).symm.trans h
              cases h
              exact byRet MX Tryz.func4 1000 [.call C36, .b false, .call C97, .call C973, .call C974, .call C1897, .call C1911, .b false, .call C1913, .call C1992, .b false, .callW C2029 [(7, 1287), (10, 1290), (15, 1295), (16, 1296), (17, 1297)], .dec 37 false, .call C2031, .b false, .callW C2039 [(0, 1408)], .call C2053, .b true, .fin] (oa (sc_ C36) (o1 (decide_eq_false c37) (oa (sc_ C97) (oa (sc_ C973) (oa (sc_ C974) (oa (sc_ C1897) (oa (sc_ C1911) (o1 (bnf c1912) (oa (sc_ C1913) (oa (sc_ C1992) (o1 (bnf c1993) (oa (scw_ C2029) (o1 (decide_eq_false c2030) (oa (sc_ C2031) (o1 (bnf c2032) (oa (scw_ C2039) (oa (sc_ C2053) (o1 (decide_eq_true c2054) on)))))))))))))))))) (by kernel_rfl)
            · replace h := (if_neg c2054).symm.trans h
              by_cases c2055 : t693 = t689.1
              · replace h := (if_pos c2055).symm.trans h
                obtain ⟨t694, g2056, h⟩ := bindN h
                let C2056 := mkCon (laws_toYard.ok k a0 t694 g2056) laws_toYard.go
                obtain ⟨t695, g2057, h⟩ := bindN h
                let C2057 := mkCon (impl_OrdersOf.ok k t694 t695 g2057) impl_OrdersOf.go
                obtain ⟨t696, g2058, h⟩ := bindN h
                let C2058 := mkCon (laws_eqOrderS.ok k t695 t312 t696 g2058) laws_eqOrderS.go
                by_cases c2059 : t696 = true
                · replace h := (if_pos c2059).symm.trans h
                  obtain ⟨t697, g2060, h⟩ := bindN h
                  let C2060 := mkCon (laws_heldOrderS.ok k t689.2 1 t697 g2060) laws_heldOrderS.go
                  by_cases c2061 : t697 < 0
                  · replace h := (if_pos c2061).symm.trans h
                    cases h
                    exact byRet MX Tryz.func4 1000 [.call C36, .b false, .call C97, .call C973, .call C974, .call C1897, .call C1911, .b false, .call C1913, .call C1992, .b false, .callW C2029 [(7, 1287), (10, 1290), (15, 1295), (16, 1296), (17, 1297)], .dec 37 false, .call C2031, .b false, .callW C2039 [(0, 1408)], .call C2053, .b false, .b false, .call C2056, .call C2057, .call C2058, .b false, .call C2060, .b true, .fin] (oa (sc_ C36) (o1 (decide_eq_false c37) (oa (sc_ C97) (oa (sc_ C973) (oa (sc_ C974) (oa (sc_ C1897) (oa (sc_ C1911) (o1 (bnf c1912) (oa (sc_ C1913) (oa (sc_ C1992) (o1 (bnf c1993) (oa (scw_ C2029) (o1 (decide_eq_false c2030) (oa (sc_ C2031) (o1 (bnf c2032) (oa (scw_ C2039) (oa (sc_ C2053) (o1 (decide_eq_false c2054) (o1 (bnf (decide_eq_true c2055)) (oa (sc_ C2056) (oa (sc_ C2057) (oa (sc_ C2058) (o1 (bnf c2059) (oa (sc_ C2060) (o1 (decide_eq_true c2061) on))))))))))))))))))))))))) (by kernel_rfl)
                  · replace h := (if_neg c2061).symm.trans h
                    by_cases c2062 : t697 = t689.1
                    · replace h := (if_pos c2062).symm.trans h
                      cases h
                      exact byRet MX Tryz.func4 1000 [.call C36, .b false, .call C97, .call C973, .call C974, .call C1897, .call C1911, .b false, .call C1913, .call C1992, .b false, .callW C2029 [(7, 1287), (10, 1290), (15, 1295), (16, 1296), (17, 1297)], .dec 37 false, .call C2031, .b false, .callW C2039 [(0, 1408)], .call C2053, .b false, .b false, .call C2056, .call C2057, .call C2058, .b false, .call C2060, .b false, .b false, .fin] (oa (sc_ C36) (o1 (decide_eq_false c37) (oa (sc_ C97) (oa (sc_ C973) (oa (sc_ C974) (oa (sc_ C1897) (oa (sc_ C1911) (o1 (bnf c1912) (oa (sc_ C1913) (oa (sc_ C1992) (o1 (bnf c1993) (oa (scw_ C2029) (o1 (decide_eq_false c2030) (oa (sc_ C2031) (o1 (bnf c2032) (oa (scw_ C2039) (oa (sc_ C2053) (o1 (decide_eq_false c2054) (o1 (bnf (decide_eq_true c2055)) (oa (sc_ C2056) (oa (sc_ C2057) (oa (sc_ C2058) (o1 (bnf c2059) (oa (sc_ C2060) (o1 (decide_eq_false c2061) (o1 (bnf (decide_eq_true c2062)) on)))))))))))))))))))))))))) (by kernel_rfl)
                    · replace h := (if_neg c2062).symm.trans h
                      cases h
                      exact byRet MX Tryz.func4 1000 [.call C36, .b false, .call C97, .call C973, .call C974, .call C1897, .call C1911, .b false, .call C1913, .call C1992, .b false, .callW C2029 [(7, 1287), (10, 1290), (15, 1295), (16, 1296), (17, 1297)], .dec 37 false, .call C2031, .b false, .callW C2039 [(0, 1408)], .call C2053, .b false, .b false, .call C2056, .call C2057, .call C2058, .b false, .call C2060, .b false, .b true, .fin] (oa (sc_ C36) (o1 (decide_eq_false c37) (oa (sc_ C97) (oa (sc_ C973) (oa (sc_ C974) (oa (sc_ C1897) (oa (sc_ C1911) (o1 (bnf c1912) (oa (sc_ C1913) (oa (sc_ C1992) (o1 (bnf c1993) (oa (scw_ C2029) (o1 (decide_eq_false c2030) (oa (sc_ C2031) (o1 (bnf c2032) (oa (scw_ C2039) (oa (sc_ C2053) (o1 (decide_eq_false c2054) (o1 (bnf (decide_eq_true c2055)) (oa (sc_ C2056) (oa (sc_ C2057) (oa (sc_ C2058) (o1 (bnf c2059) (oa (sc_ C2060) (o1 (decide_eq_false c2061) (o1 (bnt (decide_eq_false c2062)) on)))))))))))))))))))))))))) (by kernel_rfl)
                · replace h := (if_neg c2059).symm.trans h
                  cases h
                  exact byRet MX Tryz.func4 1000 [.call C36, .b false, .call C97, .call C973, .call C974, .call C1897, .call C1911, .b false, .call C1913, .call C1992, .b false, .callW C2029 [(7, 1287), (10, 1290), (15, 1295), (16, 1296), (17, 1297)], .dec 37 false, .call C2031, .b false, .callW C2039 [(0, 1408)], .call C2053, .b false, .b false, .call C2056, .call C2057, .call C2058, .b true, .fin] (oa (sc_ C36) (o1 (decide_eq_false c37) (oa (sc_ C97) (oa (sc_ C973) (oa (sc_ C974) (oa (sc_ C1897) (oa (sc_ C1911) (o1 (bnf c1912) (oa (sc_ C1913) (oa (sc_ C1992) (o1 (bnf c1993) (oa (scw_ C2029) (o1 (decide_eq_false c2030) (oa (sc_ C2031) (o1 (bnf c2032) (oa (scw_ C2039) (oa (sc_ C2053) (o1 (decide_eq_false c2054) (o1 (bnf (decide_eq_true c2055)) (oa (sc_ C2056) (oa (sc_ C2057) (oa (sc_ C2058) (o1 (bnt (eqf c2059)) on))))))))))))))))))))))) (by kernel_rfl)
              · replace h := (if_neg c2055).symm.trans h
                cases h
                exact byRet MX Tryz.func4 1000 [.call C36, .b false, .call C97, .call C973, .call C974, .call C1897, .call C1911, .b false, .call C1913, .call C1992, .b false, .callW C2029 [(7, 1287), (10, 1290), (15, 1295), (16, 1296), (17, 1297)], .dec 37 false, .call C2031, .b false, .callW C2039 [(0, 1408)], .call C2053, .b false, .b true, .fin] (oa (sc_ C36) (o1 (decide_eq_false c37) (oa (sc_ C97) (oa (sc_ C973) (oa (sc_ C974) (oa (sc_ C1897) (oa (sc_ C1911) (o1 (bnf c1912) (oa (sc_ C1913) (oa (sc_ C1992) (o1 (bnf c1993) (oa (scw_ C2029) (o1 (decide_eq_false c2030) (oa (sc_ C2031) (o1 (bnf c2032) (oa (scw_ C2039) (oa (sc_ C2053) (o1 (decide_eq_false c2054) (o1 (bnt (decide_eq_false c2055)) on))))))))))))))))))) (by kernel_rfl)
          · replace h := (if_neg c2032).symm.trans h
            cases h
            exact byRet MX Tryz.func4 1000 [.call C36, .b false, .call C97, .call C973, .call C974, .call C1897, .call C1911, .b false, .call C1913, .call C1992, .b false, .callW C2029 [(7, 1287), (10, 1290), (15, 1295), (16, 1296), (17, 1297)], .dec 37 false, .call C2031, .b true, .fin] (oa (sc_ C36) (o1 (decide_eq_false c37) (oa (sc_ C97) (oa (sc_ C973) (oa (sc_ C974) (oa (sc_ C1897) (oa (sc_ C1911) (o1 (bnf c1912) (oa (sc_ C1913) (oa (sc_ C1992) (o1 (bnf c1993) (oa (scw_ C2029) (o1 (decide_eq_false c2030) (oa (sc_ C2031) (o1 (bnt (eqf c2032)) on))))))))))))))) (by kernel_rfl)
      · replace h := (if_neg c1993).symm.trans h
        cases h
        exact byRet MX Tryz.func4 1000 [.call C36, .b false, .call C97, .call C973, .call C974, .call C1897, .call C1911, .b false, .call C1913, .call C1992, .b true, .fin] (oa (sc_ C36) (o1 (decide_eq_false c37) (oa (sc_ C97) (oa (sc_ C973) (oa (sc_ C974) (oa (sc_ C1897) (oa (sc_ C1911) (o1 (bnf c1912) (oa (sc_ C1913) (oa (sc_ C1992) (o1 (bnt (eqf c1993)) on))))))))))) (by kernel_rfl)
    · replace h := (if_neg c1912).symm.trans h
      cases h
      exact byRet MX Tryz.func4 1000 [.call C36, .b false, .call C97, .call C973, .call C974, .call C1897, .call C1911, .b true, .fin] (oa (sc_ C36) (o1 (decide_eq_false c37) (oa (sc_ C97) (oa (sc_ C973) (oa (sc_ C974) (oa (sc_ C1897) (oa (sc_ C1911) (o1 (bnt (eqf c1912)) on)))))))) (by kernel_rfl)
end Go.Proofs.YtoaknaceaghclaaGreat.V
