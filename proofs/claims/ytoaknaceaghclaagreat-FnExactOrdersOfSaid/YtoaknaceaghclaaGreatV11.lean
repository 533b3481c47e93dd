/- What each Go function computes, and that the machine does so: printed by a program of this session (avgen.py). -/
import Derived.Test.YtoaknaceaghclaaGreatV10
namespace Go.Proofs.YtoaknaceaghclaaGreat.V
open Go Go.Av Go.Proofs
set_option linter.unusedVariables false
set_option maxRecDepth 100000
/-! ### laws_eqRobot: function 107 -/
def laws_eqRobot.f (a0 : S69) (a1 : S69) : Option Bool := if a0.f0 = a1.f0 then (if a0.f1 = a1.f1 then (if a0.f2 = a1.f2 then (if (a0.f3 == a1.f3) = true then (some true) else (some false)) else (some false)) else (some false)) else (some false)
theorem laws_eqRobot.go : Callable Tryz.prog 107 := ⟨_, Tryz.func107, by kernel_rfl, rfl⟩
theorem laws_eqRobot.ok (a0 : S69) (a1 : S69) (r : Bool) (h : laws_eqRobot.f a0 a1 = some r) : VCalls Tryz.prog 107 [.agg (e69 a0), .agg (e69 a1)] [.c (.p (.sc (.bool r)))] := by
  unfold laws_eqRobot.f at h
  refine VCalls.of (fn := Tryz.f107) (N := 25) Tryz.func107 rfl rfl (fun w0 => ?_)
  by_cases c1928 : a0.f0 = a1.f0
  · replace h := (if_pos c1928).symm.trans h
    by_cases c1929 : a0.f1 = a1.f1
    · replace h := (if_pos c1929).symm.trans h
      by_cases c1930 : a0.f2 = a1.f2
      · replace h := (if_pos c1930).symm.trans h
        by_cases c1931 : (a0.f3 == a1.f3) = true
        · replace h := (if_pos c1931).symm.trans h
          cases h
          exact byRet MX Tryz.func107 1000 [.b false, .b false, .b false, .b false, .fin] (o1 (bnf (decide_eq_true c1928)) (o1 (bnf (decide_eq_true c1929)) (o1 (bnf (decide_eq_true c1930)) (o1 (bnf c1931) on)))) (by kernel_rfl)
        · replace h := (if_neg c1931).symm.trans h
          cases h
          exact byRet MX Tryz.func107 1000 [.b false, .b false, .b false, .b true, .fin] (o1 (bnf (decide_eq_true c1928)) (o1 (bnf (decide_eq_true c1929)) (o1 (bnf (decide_eq_true c1930)) (o1 (bnt (eqf c1931)) on)))) (by kernel_rfl)
      · replace h := (if_neg c1930).symm.trans h
        cases h
        exact byRet MX Tryz.func107 1000 [.b false, .b false, .b true, .fin] (o1 (bnf (decide_eq_true c1928)) (o1 (bnf (decide_eq_true c1929)) (o1 (bnt (decide_eq_false c1930)) on))) (by kernel_rfl)
    · replace h := (if_neg c1929).symm.trans h
      cases h
      exact byRet MX Tryz.func107 1000 [.b false, .b true, .fin] (o1 (bnf (decide_eq_true c1928)) (o1 (bnt (decide_eq_false c1929)) on)) (by kernel_rfl)
  · replace h := (if_neg c1928).symm.trans h
    cases h
    exact byRet MX Tryz.func107 1000 [.b true, .fin] (o1 (bnt (decide_eq_false c1928)) on) (by kernel_rfl)

/-! ### laws_eqRobotS: function 43 -/
def laws_eqRobotS.h0T (a0 : List S69) (a1 : List S69) (v628 : Int) : List (Nat × AV) := [(0, .t (.c (.p false (R 4 e69 z69 a0)))), (1, .t (.c (.p false (R 4 e69 z69 a1)))), (5, .t (.c (.p true (.sc (.int .i64 v628)))))]
def laws_eqRobotS.h0H (a0 : List S69) (a1 : List S69) (v628 : Int) : List (Nat × Content) := []
def laws_eqRobotS.l0 : Nat → List S69 → List S69 → Int → Option Bool
  | 0, _, _, _ => none
  | kq + 1, a0, a1, v628 => if v628 < (a0.length : Int) then (if 0 ≤ v628 then (if v628 < (a1.length : Int) then ((laws_eqRobot.f (rdD z69 a0 v628) (rdD z69 a1 v628)).bind fun t629 => if t629 = true then (laws_eqRobotS.l0 kq a0 a1 (w64 (v628 + 1))) else (some false)) else none) else none) else (some true)
def laws_eqRobotS.f (k : Nat) (a0 : List S69) (a1 : List S69) : Option Bool := if (a0.length : Int) = (a1.length : Int) then (laws_eqRobotS.l0 k a0 a1 0) else (some false)
theorem laws_eqRobotS.go : Callable Tryz.prog 43 := ⟨_, Tryz.func43, by kernel_rfl, rfl⟩
theorem laws_eqRobotS.ok (k : Nat) (a0 : List S69) (a1 : List S69) (r : Bool) (h : laws_eqRobotS.f k a0 a1 = some r) : VCalls Tryz.prog 43 [.c (R 4 e69 z69 a0), .c (R 4 e69 z69 a1)] [.c (.p (.sc (.bool r)))] := by
  unfold laws_eqRobotS.f at h
  refine VCalls.of (fn := Tryz.f43) (N := 27) Tryz.func43 rfl rfl (fun w0 => ?_)
  by_cases c1925 : (a0.length : Int) = (a1.length : Int)
  · replace h := (if_pos c1925).symm.trans h
    have H0 : ∀ (kq : Nat) (v628 : Int), laws_eqRobotS.l0 kq a0 a1 v628 = some r → AG Tryz.prog 43 27 [.c (.p (.sc (.bool r)))] w0 (headStk (codeOf Tryz.f43) 0) (mkFS (laws_eqRobotS.h0T a0 a1 v628) (laws_eqRobotS.h0H a0 a1 v628)) := by
      intro kq
      induction kq with
      | zero => intro v628 h; cases h
      | succ kq ih =>
        intro v628 h
        rw [laws_eqRobotS.l0] at h
        by_cases c1934 : v628 < (a0.length : Int)
        · replace h := (if_pos c1934).symm.trans h
          obtain ⟨c1935, h⟩ := ifN h
          obtain ⟨c1936, h⟩ := ifN h
          obtain ⟨t629, g1937, h⟩ := bindN h
          let C1937 := mkCon (laws_eqRobot.ok (rdD z69 a0 v628) (rdD z69 a1 v628) t629 g1937) laws_eqRobot.go
          by_cases c1938 : t629 = true
          · replace h := (if_pos c1938).symm.trans h
            exact byHead MX Tryz.func43 1000 [.b true, .call C1937, .b false, .fin] (o1 (decide_eq_true c1934) (o1 c1935 (o1 c1934 (o1 c1935 (o1 c1936 (oa (sc_ C1937) (o1 (bnf c1938) on))))))) (ih (w64 (v628 + 1)) h) (by kernel_rfl)
          · replace h := (if_neg c1938).symm.trans h
            cases h
            exact byRet MX Tryz.func43 1000 [.b true, .call C1937, .b true, .fin] (o1 (decide_eq_true c1934) (o1 c1935 (o1 c1934 (o1 c1935 (o1 c1936 (oa (sc_ C1937) (o1 (bnt (eqf c1938)) on))))))) (by kernel_rfl)
        · replace h := (if_neg c1934).symm.trans h
          cases h
          exact byRet MX Tryz.func43 1000 [.b false, .fin, .fin] (o1 (decide_eq_false c1934) on) (by kernel_rfl)
    exact byHead MX Tryz.func43 1000 [.b false, .fin] (o1 (bnf (decide_eq_true c1925)) on) (H0 k 0 h) (by kernel_rfl)
  · replace h := (if_neg c1925).symm.trans h
    cases h
    exact byRet MX Tryz.func43 1000 [.b true, .fin] (o1 (bnt (decide_eq_false c1925)) on) (by kernel_rfl)

/-! ### laws_eqIntS: function 11 -/
def laws_eqIntS.h0T (a0 : List Int) (a1 : List Int) (v631 : Int) : List (Nat × AV) := [(0, .t (.c (.p false (R 1 (eI .i64) 0 a0)))), (1, .t (.c (.p false (R 1 (eI .i64) 0 a1)))), (5, .t (.c (.p true (.sc (.int .i64 v631)))))]
def laws_eqIntS.h0H (a0 : List Int) (a1 : List Int) (v631 : Int) : List (Nat × Content) := []
def laws_eqIntS.l0 : Nat → List Int → List Int → Int → Option Bool
  | 0, _, _, _ => none
  | kq + 1, a0, a1, v631 => if v631 < (a0.length : Int) then (if 0 ≤ v631 then (if v631 < (a1.length : Int) then (if (rdD 0 a0 v631) = (rdD 0 a1 v631) then (laws_eqIntS.l0 kq a0 a1 (w64 (v631 + 1))) else (some false)) else none) else none) else (some true)
def laws_eqIntS.f (k : Nat) (a0 : List Int) (a1 : List Int) : Option Bool := if (a0.length : Int) = (a1.length : Int) then (laws_eqIntS.l0 k a0 a1 0) else (some false)
theorem laws_eqIntS.go : Callable Tryz.prog 11 := ⟨_, Tryz.func11, by kernel_rfl, rfl⟩
theorem laws_eqIntS.ok (k : Nat) (a0 : List Int) (a1 : List Int) (r : Bool) (h : laws_eqIntS.f k a0 a1 = some r) : VCalls Tryz.prog 11 [.c (R 1 (eI .i64) 0 a0), .c (R 1 (eI .i64) 0 a1)] [.c (.p (.sc (.bool r)))] := by
  unfold laws_eqIntS.f at h
  refine VCalls.of (fn := Tryz.f11) (N := 26) Tryz.func11 rfl rfl (fun w0 => ?_)
  by_cases c1943 : (a0.length : Int) = (a1.length : Int)
  · replace h := (if_pos c1943).symm.trans h
    have H0 : ∀ (kq : Nat) (v631 : Int), laws_eqIntS.l0 kq a0 a1 v631 = some r → AG Tryz.prog 11 26 [.c (.p (.sc (.bool r)))] w0 (headStk (codeOf Tryz.f11) 0) (mkFS (laws_eqIntS.h0T a0 a1 v631) (laws_eqIntS.h0H a0 a1 v631)) := by
      intro kq
      induction kq with
      | zero => intro v631 h; cases h
      | succ kq ih =>
        intro v631 h
        rw [laws_eqIntS.l0] at h
        by_cases c1947 : v631 < (a0.length : Int)
        · replace h := (if_pos c1947).symm.trans h
          obtain ⟨c1948, h⟩ := ifN h
          obtain ⟨c1949, h⟩ := ifN h
          by_cases c1950 : (rdD 0 a0 v631) = (rdD 0 a1 v631)
          · replace h := (if_pos c1950).symm.trans h
            exact byHead MX Tryz.func11 1000 [.b true, .b false, .fin] (o1 (decide_eq_true c1947) (o1 c1948 (o1 c1947 (o1 c1948 (o1 c1949 (o1 (bnf (decide_eq_true c1950)) on)))))) (ih (w64 (v631 + 1)) h) (by kernel_rfl)
          · replace h := (if_neg c1950).symm.trans h
            cases h
            exact byRet MX Tryz.func11 1000 [.b true, .b true, .fin] (o1 (decide_eq_true c1947) (o1 c1948 (o1 c1947 (o1 c1948 (o1 c1949 (o1 (bnt (decide_eq_false c1950)) on)))))) (by kernel_rfl)
        · replace h := (if_neg c1947).symm.trans h
          cases h
          exact byRet MX Tryz.func11 1000 [.b false, .fin, .fin] (o1 (decide_eq_false c1947) on) (by kernel_rfl)
    exact byHead MX Tryz.func11 1000 [.b false, .fin] (o1 (bnf (decide_eq_true c1943)) on) (H0 k 0 h) (by kernel_rfl)
  · replace h := (if_neg c1943).symm.trans h
    cases h
    exact byRet MX Tryz.func11 1000 [.b true, .fin] (o1 (bnt (decide_eq_false c1943)) on) (by kernel_rfl)

/-! ### laws_eqWindow: function 44 -/
def laws_eqWindow.f (k : Nat) (a0 : S42) (a1 : S42) : Option Bool := if a0.f0 = a1.f0 then (if a0.f1 = a1.f1 then ((laws_eqIntS.f k a0.f2 a1.f2).bind fun t632 => if t632 = true then (some true) else (some false)) else (some false)) else (some false)
theorem laws_eqWindow.go : Callable Tryz.prog 44 := ⟨_, Tryz.func44, by kernel_rfl, rfl⟩
theorem laws_eqWindow.ok (k : Nat) (a0 : S42) (a1 : S42) (r : Bool) (h : laws_eqWindow.f k a0 a1 = some r) : VCalls Tryz.prog 44 [.agg (e42 a0), .agg (e42 a1)] [.c (.p (.sc (.bool r)))] := by
  unfold laws_eqWindow.f at h
  refine VCalls.of (fn := Tryz.f44) (N := 21) Tryz.func44 rfl rfl (fun w0 => ?_)
  by_cases c1941 : a0.f0 = a1.f0
  · replace h := (if_pos c1941).symm.trans h
    by_cases c1942 : a0.f1 = a1.f1
    · replace h := (if_pos c1942).symm.trans h
      obtain ⟨t632, g1951, h⟩ := bindN h
      let C1951 := mkCon (laws_eqIntS.ok k a0.f2 a1.f2 t632 g1951) laws_eqIntS.go
      by_cases c1952 : t632 = true
      · replace h := (if_pos c1952).symm.trans h
        cases h
        exact byRet MX Tryz.func44 1000 [.b false, .b false, .call C1951, .b false, .fin] (o1 (bnf (decide_eq_true c1941)) (o1 (bnf (decide_eq_true c1942)) (oa (sc_ C1951) (o1 (bnf c1952) on)))) (by kernel_rfl)
      · replace h := (if_neg c1952).symm.trans h
        cases h
        exact byRet MX Tryz.func44 1000 [.b false, .b false, .call C1951, .b true, .fin] (o1 (bnf (decide_eq_true c1941)) (o1 (bnf (decide_eq_true c1942)) (oa (sc_ C1951) (o1 (bnt (eqf c1952)) on)))) (by kernel_rfl)
    · replace h := (if_neg c1942).symm.trans h
      cases h
      exact byRet MX Tryz.func44 1000 [.b false, .b true, .fin] (o1 (bnf (decide_eq_true c1941)) (o1 (bnt (decide_eq_false c1942)) on)) (by kernel_rfl)
  · replace h := (if_neg c1941).symm.trans h
    cases h
    exact byRet MX Tryz.func44 1000 [.b true, .fin] (o1 (bnt (decide_eq_false c1941)) on) (by kernel_rfl)

/-! ### laws_eqWay: function 184 -/
def laws_eqWay.f (k : Nat) (a0 : S72) (a1 : S72) : Option Bool := (laws_eqIntS.f k a0.f0 a1.f0).bind fun t634 => if t634 = true then (some true) else (some false)
theorem laws_eqWay.go : Callable Tryz.prog 184 := ⟨_, Tryz.func184, by kernel_rfl, rfl⟩
theorem laws_eqWay.ok (k : Nat) (a0 : S72) (a1 : S72) (r : Bool) (h : laws_eqWay.f k a0 a1 = some r) : VCalls Tryz.prog 184 [.agg (e72 a0), .agg (e72 a1)] [.c (.p (.sc (.bool r)))] := by
  unfold laws_eqWay.f at h
  refine VCalls.of (fn := Tryz.f184) (N := 11) Tryz.func184 rfl rfl (fun w0 => ?_)
  obtain ⟨t634, g1962, h⟩ := bindN h
  let C1962 := mkCon (laws_eqIntS.ok k a0.f0 a1.f0 t634 g1962) laws_eqIntS.go
  by_cases c1963 : t634 = true
  · replace h := (if_pos c1963).symm.trans h
    cases h
    exact byRet MX Tryz.func184 1000 [.call C1962, .b false, .fin] (oa (sc_ C1962) (o1 (bnf c1963) on)) (by kernel_rfl)
  · replace h := (if_neg c1963).symm.trans h
    cases h
    exact byRet MX Tryz.func184 1000 [.call C1962, .b true, .fin] (oa (sc_ C1962) (o1 (bnt (eqf c1963)) on)) (by kernel_rfl)

/-! ### laws_eqWayS: function 108 -/
def laws_eqWayS.h0T (a0 : List S72) (a1 : List S72) (v636 : Int) : List (Nat × AV) := [(0, .t (.c (.p false (R 1 e72 z72 a0)))), (1, .t (.c (.p false (R 1 e72 z72 a1)))), (5, .t (.c (.p true (.sc (.int .i64 v636)))))]
def laws_eqWayS.h0H (a0 : List S72) (a1 : List S72) (v636 : Int) : List (Nat × Content) := []
def laws_eqWayS.l0 : Nat → List S72 → List S72 → Int → Option Bool
  | 0, _, _, _ => none
  | kq + 1, a0, a1, v636 => if v636 < (a0.length : Int) then (if 0 ≤ v636 then (if v636 < (a1.length : Int) then ((laws_eqWay.f kq (rdD z72 a0 v636) (rdD z72 a1 v636)).bind fun t637 => if t637 = true then (laws_eqWayS.l0 kq a0 a1 (w64 (v636 + 1))) else (some false)) else none) else none) else (some true)
def laws_eqWayS.f (k : Nat) (a0 : List S72) (a1 : List S72) : Option Bool := if (a0.length : Int) = (a1.length : Int) then (laws_eqWayS.l0 k a0 a1 0) else (some false)
theorem laws_eqWayS.go : Callable Tryz.prog 108 := ⟨_, Tryz.func108, by kernel_rfl, rfl⟩
theorem laws_eqWayS.ok (k : Nat) (a0 : List S72) (a1 : List S72) (r : Bool) (h : laws_eqWayS.f k a0 a1 = some r) : VCalls Tryz.prog 108 [.c (R 1 e72 z72 a0), .c (R 1 e72 z72 a1)] [.c (.p (.sc (.bool r)))] := by
  unfold laws_eqWayS.f at h
  refine VCalls.of (fn := Tryz.f108) (N := 27) Tryz.func108 rfl rfl (fun w0 => ?_)
  by_cases c1959 : (a0.length : Int) = (a1.length : Int)
  · replace h := (if_pos c1959).symm.trans h
    have H0 : ∀ (kq : Nat) (v636 : Int), laws_eqWayS.l0 kq a0 a1 v636 = some r → AG Tryz.prog 108 27 [.c (.p (.sc (.bool r)))] w0 (headStk (codeOf Tryz.f108) 0) (mkFS (laws_eqWayS.h0T a0 a1 v636) (laws_eqWayS.h0H a0 a1 v636)) := by
      intro kq
      induction kq with
      | zero => intro v636 h; cases h
      | succ kq ih =>
        intro v636 h
        rw [laws_eqWayS.l0] at h
        by_cases c1966 : v636 < (a0.length : Int)
        · replace h := (if_pos c1966).symm.trans h
          obtain ⟨c1967, h⟩ := ifN h
          obtain ⟨c1968, h⟩ := ifN h
          obtain ⟨t637, g1969, h⟩ := bindN h
          let C1969 := mkCon (laws_eqWay.ok kq (rdD z72 a0 v636) (rdD z72 a1 v636) t637 g1969) laws_eqWay.go
          by_cases c1970 : t637 = true
          · replace h := (if_pos c1970).symm.trans h
            exact byHead MX Tryz.func108 1000 [.b true, .call C1969, .b false, .fin] (o1 (decide_eq_true c1966) (o1 c1967 (o1 c1966 (o1 c1967 (o1 c1968 (oa (sc_ C1969) (o1 (bnf c1970) on))))))) (ih (w64 (v636 + 1)) h) (by kernel_rfl)
          · replace h := (if_neg c1970).symm.trans h
            cases h
            exact byRet MX Tryz.func108 1000 [.b true, .call C1969, .b true, .fin] (o1 (decide_eq_true c1966) (o1 c1967 (o1 c1966 (o1 c1967 (o1 c1968 (oa (sc_ C1969) (o1 (bnt (eqf c1970)) on))))))) (by kernel_rfl)
        · replace h := (if_neg c1966).symm.trans h
          cases h
          exact byRet MX Tryz.func108 1000 [.b false, .fin, .fin] (o1 (decide_eq_false c1966) on) (by kernel_rfl)
    exact byHead MX Tryz.func108 1000 [.b false, .fin] (o1 (bnf (decide_eq_true c1959)) on) (H0 k 0 h) (by kernel_rfl)
  · replace h := (if_neg c1959).symm.trans h
    cases h
    exact byRet MX Tryz.func108 1000 [.b true, .fin] (o1 (bnt (decide_eq_false c1959)) on) (by kernel_rfl)

/-! ### laws_eqPlan: function 45 -/
def laws_eqPlan.f (k : Nat) (a0 : S45) (a1 : S45) : Option Bool := if a0.f0 = a1.f0 then (if a0.f1 = a1.f1 then ((laws_eqWayS.f k a0.f2 a1.f2).bind fun t638 => if t638 = true then (some true) else (some false)) else (some false)) else (some false)
theorem laws_eqPlan.go : Callable Tryz.prog 45 := ⟨_, Tryz.func45, by kernel_rfl, rfl⟩
theorem laws_eqPlan.ok (k : Nat) (a0 : S45) (a1 : S45) (r : Bool) (h : laws_eqPlan.f k a0 a1 = some r) : VCalls Tryz.prog 45 [.agg (e45 a0), .agg (e45 a1)] [.c (.p (.sc (.bool r)))] := by
  unfold laws_eqPlan.f at h
  refine VCalls.of (fn := Tryz.f45) (N := 21) Tryz.func45 rfl rfl (fun w0 => ?_)
  by_cases c1957 : a0.f0 = a1.f0
  · replace h := (if_pos c1957).symm.trans h
    by_cases c1958 : a0.f1 = a1.f1
    · replace h := (if_pos c1958).symm.trans h
      obtain ⟨t638, g1971, h⟩ := bindN h
      let C1971 := mkCon (laws_eqWayS.ok k a0.f2 a1.f2 t638 g1971) laws_eqWayS.go
      by_cases c1972 : t638 = true
      · replace h := (if_pos c1972).symm.trans h
        cases h
        exact byRet MX Tryz.func45 1000 [.b false, .b false, .call C1971, .b false, .fin] (o1 (bnf (decide_eq_true c1957)) (o1 (bnf (decide_eq_true c1958)) (oa (sc_ C1971) (o1 (bnf c1972) on)))) (by kernel_rfl)
      · replace h := (if_neg c1972).symm.trans h
        cases h
        exact byRet MX Tryz.func45 1000 [.b false, .b false, .call C1971, .b true, .fin] (o1 (bnf (decide_eq_true c1957)) (o1 (bnf (decide_eq_true c1958)) (oa (sc_ C1971) (o1 (bnt (eqf c1972)) on)))) (by kernel_rfl)
    · replace h := (if_neg c1958).symm.trans h
      cases h
      exact byRet MX Tryz.func45 1000 [.b false, .b true, .fin] (o1 (bnf (decide_eq_true c1957)) (o1 (bnt (decide_eq_false c1958)) on)) (by kernel_rfl)
  · replace h := (if_neg c1957).symm.trans h
    cases h
    exact byRet MX Tryz.func45 1000 [.b true, .fin] (o1 (bnt (decide_eq_false c1957)) on) (by kernel_rfl)

/-! ### laws_eqJob: function 109 -/
def laws_eqJob.f (a0 : S74) (a1 : S74) : Option Bool := if a0.f0 = a1.f0 then (if a0.f1 = a1.f1 then (if (a0.f2 == a1.f2) = true then (some true) else (some false)) else (some false)) else (some false)
theorem laws_eqJob.go : Callable Tryz.prog 109 := ⟨_, Tryz.func109, by kernel_rfl, rfl⟩
theorem laws_eqJob.ok (a0 : S74) (a1 : S74) (r : Bool) (h : laws_eqJob.f a0 a1 = some r) : VCalls Tryz.prog 109 [.agg (e74 a0), .agg (e74 a1)] [.c (.p (.sc (.bool r)))] := by
  unfold laws_eqJob.f at h
  refine VCalls.of (fn := Tryz.f109) (N := 20) Tryz.func109 rfl rfl (fun w0 => ?_)
  by_cases c1978 : a0.f0 = a1.f0
  · replace h := (if_pos c1978).symm.trans h
    by_cases c1979 : a0.f1 = a1.f1
    · replace h := (if_pos c1979).symm.trans h
      by_cases c1980 : (a0.f2 == a1.f2) = true
      · replace h := (if_pos c1980).symm.trans h
        cases h
        exact byRet MX Tryz.func109 1000 [.b false, .b false, .b false, .fin] (o1 (bnf (decide_eq_true c1978)) (o1 (bnf (decide_eq_true c1979)) (o1 (bnf c1980) on))) (by kernel_rfl)
      · replace h := (if_neg c1980).symm.trans h
        cases h
        exact byRet MX Tryz.func109 1000 [.b false, .b false, .b true, .fin] (o1 (bnf (decide_eq_true c1978)) (o1 (bnf (decide_eq_true c1979)) (o1 (bnt (eqf c1980)) on))) (by kernel_rfl)
    · replace h := (if_neg c1979).symm.trans h
      cases h
      exact byRet MX Tryz.func109 1000 [.b false, .b true, .fin] (o1 (bnf (decide_eq_true c1978)) (o1 (bnt (decide_eq_false c1979)) on)) (by kernel_rfl)
  · replace h := (if_neg c1978).symm.trans h
    cases h
    exact byRet MX Tryz.func109 1000 [.b true, .fin] (o1 (bnt (decide_eq_false c1978)) on) (by kernel_rfl)

/-! ### laws_eqJobS: function 46 -/
def laws_eqJobS.h0T (a0 : List S74) (a1 : List S74) (v641 : Int) : List (Nat × AV) := [(0, .t (.c (.p false (R 3 e74 z74 a0)))), (1, .t (.c (.p false (R 3 e74 z74 a1)))), (5, .t (.c (.p true (.sc (.int .i64 v641)))))]
def laws_eqJobS.h0H (a0 : List S74) (a1 : List S74) (v641 : Int) : List (Nat × Content) := []
def laws_eqJobS.l0 : Nat → List S74 → List S74 → Int → Option Bool
  | 0, _, _, _ => none
  | kq + 1, a0, a1, v641 => if v641 < (a0.length : Int) then (if 0 ≤ v641 then (if v641 < (a1.length : Int) then ((laws_eqJob.f (rdD z74 a0 v641) (rdD z74 a1 v641)).bind fun t642 => if t642 = true then (laws_eqJobS.l0 kq a0 a1 (w64 (v641 + 1))) else (some false)) else none) else none) else (some true)
def laws_eqJobS.f (k : Nat) (a0 : List S74) (a1 : List S74) : Option Bool := if (a0.length : Int) = (a1.length : Int) then (laws_eqJobS.l0 k a0 a1 0) else (some false)
theorem laws_eqJobS.go : Callable Tryz.prog 46 := ⟨_, Tryz.func46, by kernel_rfl, rfl⟩
theorem laws_eqJobS.ok (k : Nat) (a0 : List S74) (a1 : List S74) (r : Bool) (h : laws_eqJobS.f k a0 a1 = some r) : VCalls Tryz.prog 46 [.c (R 3 e74 z74 a0), .c (R 3 e74 z74 a1)] [.c (.p (.sc (.bool r)))] := by
  unfold laws_eqJobS.f at h
  refine VCalls.of (fn := Tryz.f46) (N := 27) Tryz.func46 rfl rfl (fun w0 => ?_)
  by_cases c1975 : (a0.length : Int) = (a1.length : Int)
  · replace h := (if_pos c1975).symm.trans h
    have H0 : ∀ (kq : Nat) (v641 : Int), laws_eqJobS.l0 kq a0 a1 v641 = some r → AG Tryz.prog 46 27 [.c (.p (.sc (.bool r)))] w0 (headStk (codeOf Tryz.f46) 0) (mkFS (laws_eqJobS.h0T a0 a1 v641) (laws_eqJobS.h0H a0 a1 v641)) := by
      intro kq
      induction kq with
      | zero => intro v641 h; cases h
      | succ kq ih =>
        intro v641 h
        rw [laws_eqJobS.l0] at h
        by_cases c1983 : v641 < (a0.length : Int)
        · replace h := (if_pos c1983).symm.trans h
          obtain ⟨c1984, h⟩ := ifN h
          obtain ⟨c1985, h⟩ := ifN h
          obtain ⟨t642, g1986, h⟩ := bindN h
          let C1986 := mkCon (laws_eqJob.ok (rdD z74 a0 v641) (rdD z74 a1 v641) t642 g1986) laws_eqJob.go
          by_cases c1987 : t642 = true
          · replace h := (if_pos c1987).symm.trans h
            exact byHead MX Tryz.func46 1000 [.b true, .call C1986, .b false, .fin] (o1 (decide_eq_true c1983) (o1 c1984 (o1 c1983 (o1 c1984 (o1 c1985 (oa (sc_ C1986) (o1 (bnf c1987) on))))))) (ih (w64 (v641 + 1)) h) (by kernel_rfl)
          · replace h := (if_neg c1987).symm.trans h
            cases h
            exact byRet MX Tryz.func46 1000 [.b true, .call C1986, .b true, .fin] (o1 (decide_eq_true c1983) (o1 c1984 (o1 c1983 (o1 c1984 (o1 c1985 (oa (sc_ C1986) (o1 (bnt (eqf c1987)) on))))))) (by kernel_rfl)
        · replace h := (if_neg c1983).symm.trans h
          cases h
          exact byRet MX Tryz.func46 1000 [.b false, .fin, .fin] (o1 (decide_eq_false c1983) on) (by kernel_rfl)
    exact byHead MX Tryz.func46 1000 [.b false, .fin] (o1 (bnf (decide_eq_true c1975)) on) (H0 k 0 h) (by kernel_rfl)
  · replace h := (if_neg c1975).symm.trans h
    cases h
    exact byRet MX Tryz.func46 1000 [.b true, .fin] (o1 (bnt (decide_eq_false c1975)) on) (by kernel_rfl)

/-! ### laws_eqYard: function 12 -/
def laws_eqYard.f (k : Nat) (a0 : S48) (a1 : S48) : Option Bool := (laws_eqSetup.f a0.f0 a1.f0).bind fun t626 => if t626 = true then ((laws_eqRobotS.f k a0.f1 a1.f1).bind fun t630 => if t630 = true then ((laws_eqWindow.f k a0.f2 a1.f2).bind fun t633 => if t633 = true then (if a0.f3 = a1.f3 then (if (a0.f4 == a1.f4) = true then ((laws_eqPlan.f k a0.f5 a1.f5).bind fun t639 => if t639 = true then ((laws_eqJobS.f k a0.f6 a1.f6).bind fun t643 => if t643 = true then ((laws_eqIntS.f k a0.f7 a1.f7).bind fun t644 => if t644 = true then (some true) else (some false)) else (some false)) else (some false)) else (some false)) else (some false)) else (some false)) else (some false)) else (some false)
theorem laws_eqYard.go : Callable Tryz.prog 12 := ⟨_, Tryz.func12, by kernel_rfl, rfl⟩
theorem laws_eqYard.ok (k : Nat) (a0 : S48) (a1 : S48) (r : Bool) (h : laws_eqYard.f k a0 a1 = some r) : VCalls Tryz.prog 12 [.agg (e48 a0), .agg (e48 a1)] [.c (.p (.sc (.bool r)))] := by
  unfold laws_eqYard.f at h
  refine VCalls.of (fn := Tryz.f12) (N := 51) Tryz.func12 rfl rfl (fun w0 => ?_)
  obtain ⟨t626, g1923, h⟩ := bindN h
  let C1923 := mkCon (laws_eqSetup.ok a0.f0 a1.f0 t626 g1923) laws_eqSetup.go
  by_cases c1924 : t626 = true
  · replace h := (if_pos c1924).symm.trans h
    obtain ⟨t630, g1939, h⟩ := bindN h
    let C1939 := mkCon (laws_eqRobotS.ok k a0.f1 a1.f1 t630 g1939) laws_eqRobotS.go
    by_cases c1940 : t630 = true
    · replace h := (if_pos c1940).symm.trans h
      obtain ⟨t633, g1953, h⟩ := bindN h
      let C1953 := mkCon (laws_eqWindow.ok k a0.f2 a1.f2 t633 g1953) laws_eqWindow.go
      by_cases c1954 : t633 = true
      · replace h := (if_pos c1954).symm.trans h
        by_cases c1955 : a0.f3 = a1.f3
        · replace h := (if_pos c1955).symm.trans h
          by_cases c1956 : (a0.f4 == a1.f4) = true
          · replace h := (if_pos c1956).symm.trans h
            obtain ⟨t639, g1973, h⟩ := bindN h
            let C1973 := mkCon (laws_eqPlan.ok k a0.f5 a1.f5 t639 g1973) laws_eqPlan.go
            by_cases c1974 : t639 = true
            · replace h := (if_pos c1974).symm.trans h
              obtain ⟨t643, g1988, h⟩ := bindN h
              let C1988 := mkCon (laws_eqJobS.ok k a0.f6 a1.f6 t643 g1988) laws_eqJobS.go
              by_cases c1989 : t643 = true
              · replace h := (if_pos c1989).symm.trans h
                obtain ⟨t644, g1990, h⟩ := bindN h
                let C1990 := mkCon (laws_eqIntS.ok k a0.f7 a1.f7 t644 g1990) laws_eqIntS.go
                by_cases c1991 : t644 = true
                · replace h := (if_pos c1991).symm.trans h
                  cases h
                  exact byRet MX Tryz.func12 1000 [.call C1923, .b false, .call C1939, .b false, .call C1953, .b false, .b false, .b false, .call C1973, .b false, .call C1988, .b false, .call C1990, .b false, .fin] (oa (sc_ C1923) (o1 (bnf c1924) (oa (sc_ C1939) (o1 (bnf c1940) (oa (sc_ C1953) (o1 (bnf c1954) (o1 (bnf (decide_eq_true c1955)) (o1 (bnf c1956) (oa (sc_ C1973) (o1 (bnf c1974) (oa (sc_ C1988) (o1 (bnf c1989) (oa (sc_ C1990) (o1 (bnf c1991) on)))))))))))))) (by kernel_rfl)
                · replace h := (if_neg c1991).symm.trans h
                  cases h
                  exact byRet MX Tryz.func12 1000 [.call C1923, .b false, .call C1939, .b false, .call C1953, .b false, .b false, .b false, .call C1973, .b false, .call C1988, .b false, .call C1990, .b true, .fin] (oa (sc_ C1923) (o1 (bnf c1924) (oa (sc_ C1939) (o1 (bnf c1940) (oa (sc_ C1953) (o1 (bnf c1954) (o1 (bnf (decide_eq_true c1955)) (o1 (bnf c1956) (oa (sc_ C1973) (o1 (bnf c1974) (oa (sc_ C1988) (o1 (bnf c1989) (oa (sc_ C1990) (o1 (bnt (eqf c1991)) on)))))))))))))) (by kernel_rfl)
              · replace h := (if_neg c1989).symm.trans h
                cases h
                exact byRet MX Tryz.func12 1000 [.call C1923, .b false, .call C1939, .b false, .call C1953, .b false, .b false, .b false, .call C1973, .b false, .call C1988, .b true, .fin] (oa (sc_ C1923) (o1 (bnf c1924) (oa (sc_ C1939) (o1 (bnf c1940) (oa (sc_ C1953) (o1 (bnf c1954) (o1 (bnf (decide_eq_true c1955)) (o1 (bnf c1956) (oa (sc_ C1973) (o1 (bnf c1974) (oa (sc_ C1988) (o1 (bnt (eqf c1989)) on)))))))))))) (by kernel_rfl)
            · replace h := (if_neg c1974).symm.trans h
              cases h
              exact byRet MX Tryz.func12 1000 [.call C1923, .b false, .call C1939, .b false, .call C1953, .b false, .b false, .b false, .call C1973, .b true, .fin] (oa (sc_ C1923) (o1 (bnf c1924) (oa (sc_ C1939) (o1 (bnf c1940) (oa (sc_ C1953) (o1 (bnf c1954) (o1 (bnf (decide_eq_true c1955)) (o1 (bnf c1956) (oa (sc_ C1973) (o1 (bnt (eqf c1974)) on)))))))))) (by kernel_rfl)
          · replace h := (if_neg c1956).symm.trans h
            cases h
            exact byRet MX Tryz.func12 1000 [.call C1923, .b false, .call C1939, .b false, .call C1953, .b false, .b false, .b true, .fin] (oa (sc_ C1923) (o1 (bnf c1924) (oa (sc_ C1939) (o1 (bnf c1940) (oa (sc_ C1953) (o1 (bnf c1954) (o1 (bnf (decide_eq_true c1955)) (o1 (bnt (eqf c1956)) on)))))))) (by kernel_rfl)
        · replace h := (if_neg c1955).symm.trans h
          cases h
          exact byRet MX Tryz.func12 1000 [.call C1923, .b false, .call C1939, .b false, .call C1953, .b false, .b true, .fin] (oa (sc_ C1923) (o1 (bnf c1924) (oa (sc_ C1939) (o1 (bnf c1940) (oa (sc_ C1953) (o1 (bnf c1954) (o1 (bnt (decide_eq_false c1955)) on))))))) (by kernel_rfl)
      · replace h := (if_neg c1954).symm.trans h
        cases h
        exact byRet MX Tryz.func12 1000 [.call C1923, .b false, .call C1939, .b false, .call C1953, .b true, .fin] (oa (sc_ C1923) (o1 (bnf c1924) (oa (sc_ C1939) (o1 (bnf c1940) (oa (sc_ C1953) (o1 (bnt (eqf c1954)) on)))))) (by kernel_rfl)
    · replace h := (if_neg c1940).symm.trans h
      cases h
      exact byRet MX Tryz.func12 1000 [.call C1923, .b false, .call C1939, .b true, .fin] (oa (sc_ C1923) (o1 (bnf c1924) (oa (sc_ C1939) (o1 (bnt (eqf c1940)) on)))) (by kernel_rfl)
  · replace h := (if_neg c1924).symm.trans h
    cases h
    exact byRet MX Tryz.func12 1000 [.call C1923, .b true, .fin] (oa (sc_ C1923) (o1 (bnt (eqf c1924)) on)) (by kernel_rfl)

/-! ### laws_markRobotS: function 47 -/
def laws_markRobotS.h0T (xw : Nat → Value) (v650 : Int) (v651 : Int) (v649 : List S69) : List (Nat × AV) := [(0, .t (.c (.hv 0 (xw 0)))), (1, .t (.c (.p false (.sc (.int .i64 v650))))), (5, .t (.c (.p true (.sc (.int .i64 v651)))))]
def laws_markRobotS.h0H (xw : Nat → Value) (v650 : Int) (v651 : Int) (v649 : List S69) : List (Nat × Content) := [(0, .row 69 4 v649.length (fun j => e69 (v649.getD j z69)) true)]
def laws_markRobotS.l0 : Nat → List S69 → Int → Int → Option (Int × List S69)
  | 0, _, _, _ => none
  | kq + 1, v649, v650, v651 => if v651 < (v649.length : Int) then (if 0 ≤ v651 then (laws_markRobotS.l0 kq  (v649.set v651.toNat (⟨v650, (w64 (v650 + 1)), (w64 ((w64 (v650 + 1)) + 1)), (decide (((w64 ((w64 ((w64 (v650 + 1)) + 1)) + 1)).tmod 3) = 0))⟩ : S69)) (w64 ((w64 ((w64 ((w64 (v650 + 1)) + 1)) + 1)) + 1)) (w64 (v651 + 1))) else none) else (some (v650, v649))
def laws_markRobotS.f (k : Nat) (a0 : List S69) (a1 : Int) : Option (Int × List S69) := laws_markRobotS.l0 k  a0 a1 0
theorem laws_markRobotS.go : Callable Tryz.prog 47 := ⟨_, Tryz.func47, by kernel_rfl, rfl⟩
def laws_markRobotS.cin (a0 : List S69) : List (Nat × Content) := [(0, .row 69 4 a0.length (fun j => e69 (a0.getD j z69)) true)]
def laws_markRobotS.cout (r : Int × List S69) : List (Nat × Content) := [(0, .row 69 4 r.2.length (fun j => e69 (r.2.getD j z69)) true)]
theorem laws_markRobotS.flat (r : Int × List S69) : ∀ p ∈ laws_markRobotS.cout r, flatP p.2 := (flatP_cons (SC.of (e := e69) (d := z69) r.2 (by intro x; rfl)) flatP_nil)
theorem laws_markRobotS.okW (k : Nat) (a0 : List S69) (a1 : Int) (r : Int × List S69) (h : laws_markRobotS.f k a0 a1 = some r) : WOk Tryz.prog 47 [.t (.c (.h 0)), .t (.c (.p false (.sc (.int .i64 a1))))] (laws_markRobotS.cin a0) (laws_markRobotS.cout r) (.int .i64 r.1) := by
  unfold laws_markRobotS.f at h
  refine WOk.of (fn := Tryz.f47) (N := 43) Tryz.func47 rfl rfl rfl rfl rfl (laws_markRobotS.flat r) (fun w0 xw hB hQ => ?_)
  have H0 : ∀ (kq : Nat) (v649 : List S69) (v650 : Int) (v651 : Int), laws_markRobotS.l0 kq  v649 v650 v651 = some r → AG Tryz.prog 47 43 [.c (.p (.sc (.int .i64 r.1)))] w0 (headStk (codeOf Tryz.f47) 0) (mkFS (laws_markRobotS.h0T xw v650 v651 v649) (laws_markRobotS.h0H xw v650 v651 v649)) := by
    intro kq
    induction kq with
    | zero => intro v649 v650 v651 h; cases h
    | succ kq ih =>
      intro v649 v650 v651 h
      rw [laws_markRobotS.l0] at h
      by_cases c1998 : v651 < (v649.length : Int)
      · replace h := (if_pos c1998).symm.trans h
        obtain ⟨c1999, h⟩ := ifN h
        exact byHead MX Tryz.func47 1000 [.b true, .aft 999999, orow 0 e69 z69 (v649.set v651.toNat (⟨v650, (rdD z69 v649 v651).f1, (rdD z69 v649 v651).f2, (rdD z69 v649 v651).f3⟩ : S69)), .aft 999999, orow 0 e69 z69 (v649.set v651.toNat (⟨v650, (w64 (v650 + 1)), (rdD z69 v649 v651).f2, (rdD z69 v649 v651).f3⟩ : S69)), .aft 999999, orow 0 e69 z69 (v649.set v651.toNat (⟨v650, (w64 (v650 + 1)), (w64 ((w64 (v650 + 1)) + 1)), (rdD z69 v649 v651).f3⟩ : S69)), .aft 999999, orow 0 e69 z69 (v649.set v651.toNat (⟨v650, (w64 (v650 + 1)), (w64 ((w64 (v650 + 1)) + 1)), (decide (((w64 ((w64 ((w64 (v650 + 1)) + 1)) + 1)).tmod 3) = 0))⟩ : S69)), .fin] (o1 (decide_eq_true c1998) (o1 c1999 (o1 c1998 (o1 (GE.set (e := e69) (d := z69) v649 v651.toNat (⟨v650, (rdD z69 v649 v651).f1, (rdD z69 v649 v651).f2, (rdD z69 v649 v651).f3⟩ : S69) (lt_toNat c1999 c1998) rfl) (o1 c1999 (o1 (lt_set (k := v651.toNat) (v := (⟨v650, (rdD z69 v649 v651).f1, (rdD z69 v649 v651).f2, (rdD z69 v649 v651).f3⟩ : S69)) c1998) (o1 (GE.set2 (e := e69) (d := z69) v649 v651.toNat (⟨v650, (rdD z69 v649 v651).f1, (rdD z69 v649 v651).f2, (rdD z69 v649 v651).f3⟩ : S69) (⟨v650, (w64 (v650 + 1)), (rdD z69 v649 v651).f2, (rdD z69 v649 v651).f3⟩ : S69) (lt_toNat c1999 c1998) (f := fun u => splice u 1 [.sc (.int .i64 (w64 (v650 + 1)))]) rfl) (o1 c1999 (o1 (lt_set (k := v651.toNat) (v := (⟨v650, (w64 (v650 + 1)), (rdD z69 v649 v651).f2, (rdD z69 v649 v651).f3⟩ : S69)) c1998) (o1 (GE.set2 (e := e69) (d := z69) v649 v651.toNat (⟨v650, (w64 (v650 + 1)), (rdD z69 v649 v651).f2, (rdD z69 v649 v651).f3⟩ : S69) (⟨v650, (w64 (v650 + 1)), (w64 ((w64 (v650 + 1)) + 1)), (rdD z69 v649 v651).f3⟩ : S69) (lt_toNat c1999 c1998) (f := fun u => splice u 2 [.sc (.int .i64 (w64 ((w64 (v650 + 1)) + 1)))]) rfl) (o1 (by decide : (3 : Int) ≠ 0) (o1 c1999 (o1 (lt_set (k := v651.toNat) (v := (⟨v650, (w64 (v650 + 1)), (w64 ((w64 (v650 + 1)) + 1)), (rdD z69 v649 v651).f3⟩ : S69)) c1998) (o1 (GE.set2 (e := e69) (d := z69) v649 v651.toNat (⟨v650, (w64 (v650 + 1)), (w64 ((w64 (v650 + 1)) + 1)), (rdD z69 v649 v651).f3⟩ : S69) (⟨v650, (w64 (v650 + 1)), (w64 ((w64 (v650 + 1)) + 1)), (decide (((w64 ((w64 ((w64 (v650 + 1)) + 1)) + 1)).tmod 3) = 0))⟩ : S69) (lt_toNat c1999 c1998) (f := fun u => splice u 3 [.sc (.bool (decide (((w64 ((w64 ((w64 (v650 + 1)) + 1)) + 1)).tmod 3) = 0)))]) rfl) on)))))))))))))) (ih (v649.set v651.toNat (⟨v650, (w64 (v650 + 1)), (w64 ((w64 (v650 + 1)) + 1)), (decide (((w64 ((w64 ((w64 (v650 + 1)) + 1)) + 1)).tmod 3) = 0))⟩ : S69)) (w64 ((w64 ((w64 ((w64 (v650 + 1)) + 1)) + 1)) + 1)) (w64 (v651 + 1)) h) (by kernel_rfl)
      · replace h := (if_neg c1998).symm.trans h
        cases h
        exact byRetW MX Tryz.func47 hB hQ (laws_markRobotS.flat _) (T := [(0, .t (.c (.hv 0 (xw 0))))]) rfl 1000 [.b false, .fin, .fin] (o1 (decide_eq_false c1998) on) (by kernel_rfl)
  exact byHead MX Tryz.func47 1000 [.fin] on (H0 k a0 a1 0 h) (by kernel_rfl)
def laws_markRobotS.con (k : Nat) (a0 : List S69) (a1 : Int) (r : Int × List S69) (h : laws_markRobotS.f k a0 a1 = some r) : WCon Tryz.prog := ⟨47, [.t (.c (.h 0)), .t (.c (.p false (.sc (.int .i64 a1))))], laws_markRobotS.cin a0, laws_markRobotS.cout r, .int .i64 r.1, rfl, laws_markRobotS.okW k a0 a1 r h, laws_markRobotS.go⟩

/-! ### laws_markIntS: function 14 -/
def laws_markIntS.h0T (xw : Nat → Value) (v657 : Int) (v658 : Int) (v656 : List Int) : List (Nat × AV) := [(0, .t (.c (.hv 0 (xw 0)))), (1, .t (.c (.p false (.sc (.int .i64 v657))))), (5, .t (.c (.p true (.sc (.int .i64 v658)))))]
def laws_markIntS.h0H (xw : Nat → Value) (v657 : Int) (v658 : Int) (v656 : List Int) : List (Nat × Content) := [(0, .row 3 1 v656.length (fun j => (eI .i64) (v656.getD j 0)) true)]
def laws_markIntS.l0 : Nat → List Int → Int → Int → Option (Int × List Int)
  | 0, _, _, _ => none
  | kq + 1, v656, v657, v658 => if v658 < (v656.length : Int) then (if 0 ≤ v658 then (laws_markIntS.l0 kq  (v656.set v658.toNat v657) (w64 (v657 + 1)) (w64 (v658 + 1))) else none) else (some (v657, v656))
def laws_markIntS.f (k : Nat) (a0 : List Int) (a1 : Int) : Option (Int × List Int) := laws_markIntS.l0 k  a0 a1 0
theorem laws_markIntS.go : Callable Tryz.prog 14 := ⟨_, Tryz.func14, by kernel_rfl, rfl⟩
def laws_markIntS.cin (a0 : List Int) : List (Nat × Content) := [(0, .row 3 1 a0.length (fun j => (eI .i64) (a0.getD j 0)) true)]
def laws_markIntS.cout (r : Int × List Int) : List (Nat × Content) := [(0, .row 3 1 r.2.length (fun j => (eI .i64) (r.2.getD j 0)) true)]
theorem laws_markIntS.flat (r : Int × List Int) : ∀ p ∈ laws_markIntS.cout r, flatP p.2 := (flatP_cons (SC.of (e := (eI .i64)) (d := 0) r.2 (by intro x; rfl)) flatP_nil)
theorem laws_markIntS.okW (k : Nat) (a0 : List Int) (a1 : Int) (r : Int × List Int) (h : laws_markIntS.f k a0 a1 = some r) : WOk Tryz.prog 14 [.t (.c (.h 0)), .t (.c (.p false (.sc (.int .i64 a1))))] (laws_markIntS.cin a0) (laws_markIntS.cout r) (.int .i64 r.1) := by
  unfold laws_markIntS.f at h
  refine WOk.of (fn := Tryz.f14) (N := 19) Tryz.func14 rfl rfl rfl rfl rfl (laws_markIntS.flat r) (fun w0 xw hB hQ => ?_)
  have H0 : ∀ (kq : Nat) (v656 : List Int) (v657 : Int) (v658 : Int), laws_markIntS.l0 kq  v656 v657 v658 = some r → AG Tryz.prog 14 19 [.c (.p (.sc (.int .i64 r.1)))] w0 (headStk (codeOf Tryz.f14) 0) (mkFS (laws_markIntS.h0T xw v657 v658 v656) (laws_markIntS.h0H xw v657 v658 v656)) := by
    intro kq
    induction kq with
    | zero => intro v656 v657 v658 h; cases h
    | succ kq ih =>
      intro v656 v657 v658 h
      rw [laws_markIntS.l0] at h
      by_cases c2005 : v658 < (v656.length : Int)
      · replace h := (if_pos c2005).symm.trans h
        obtain ⟨c2006, h⟩ := ifN h
        exact byHead MX Tryz.func14 1000 [.b true, .aft 999999, orow 0 (eI .i64) 0 (v656.set v658.toNat v657), .fin] (o1 (decide_eq_true c2005) (o1 c2006 (o1 c2005 (o1 (GE.set (e := (eI .i64)) (d := 0) v656 v658.toNat v657 (lt_toNat c2006 c2005) rfl) on)))) (ih (v656.set v658.toNat v657) (w64 (v657 + 1)) (w64 (v658 + 1)) h) (by kernel_rfl)
      · replace h := (if_neg c2005).symm.trans h
        cases h
        exact byRetW MX Tryz.func14 hB hQ (laws_markIntS.flat _) (T := [(0, .t (.c (.hv 0 (xw 0))))]) rfl 1000 [.b false, .fin, .fin] (o1 (decide_eq_false c2005) on) (by kernel_rfl)
  exact byHead MX Tryz.func14 1000 [.fin] on (H0 k a0 a1 0 h) (by kernel_rfl)
def laws_markIntS.con (k : Nat) (a0 : List Int) (a1 : Int) (r : Int × List Int) (h : laws_markIntS.f k a0 a1 = some r) : WCon Tryz.prog := ⟨14, [.t (.c (.h 0)), .t (.c (.p false (.sc (.int .i64 a1))))], laws_markIntS.cin a0, laws_markIntS.cout r, .int .i64 r.1, rfl, laws_markIntS.okW k a0 a1 r h, laws_markIntS.go⟩

/-! ### laws_markWindow: function 48 -/
def laws_markWindow.f (k : Nat) (a0 : S42) (a1 : Int) : Option (Int × List Int) := (laws_markIntS.f k a0.f2 a1).bind fun t659 => some (t659.1, t659.2)
theorem laws_markWindow.go : Callable Tryz.prog 48 := ⟨_, Tryz.func48, by kernel_rfl, rfl⟩
def laws_markWindow.cin (a0 : S42) : List (Nat × Content) := [(2, .row 3 1 a0.f2.length (fun j => (eI .i64) (a0.f2.getD j 0)) true)]
def laws_markWindow.cout (r : Int × List Int) : List (Nat × Content) := [(2, .row 3 1 r.2.length (fun j => (eI .i64) (r.2.getD j 0)) true)]
theorem laws_markWindow.flat (r : Int × List Int) : ∀ p ∈ laws_markWindow.cout r, flatP p.2 := (flatP_cons (SC.of (e := (eI .i64)) (d := 0) r.2 (by intro x; rfl)) flatP_nil)
theorem laws_markWindow.okW (k : Nat) (a0 : S42) (a1 : Int) (r : Int × List Int) (h : laws_markWindow.f k a0 a1 = some r) : WOk Tryz.prog 48 [.t (.agg [.p false (.sc (.int .i64 a0.f0)), .p false (.sc (.int .i64 a0.f1)), .h 2]), .t (.c (.p false (.sc (.int .i64 a1))))] (laws_markWindow.cin a0) (laws_markWindow.cout r) (.int .i64 r.1) := by
  unfold laws_markWindow.f at h
  refine WOk.of (fn := Tryz.f48) (N := 10) Tryz.func48 rfl rfl rfl rfl rfl (laws_markWindow.flat r) (fun w0 xw hB hQ => ?_)
  obtain ⟨t659, g2007, h⟩ := bindN h
  let C2007 := laws_markIntS.con k a0.f2 a1 t659 g2007
  cases h
  exact byRetW MX Tryz.func48 hB hQ (laws_markWindow.flat _) (T := [(0, .t (.agg [.p false (.sc (.int .i64 a0.f0)), .p false (.sc (.int .i64 a0.f1)), .hv 2 (xw 2)]))]) rfl 1000 [.callW C2007 [(0, 2)], .fin] (oa (scw_ C2007) on) (by kernel_rfl)
def laws_markWindow.con (k : Nat) (a0 : S42) (a1 : Int) (r : Int × List Int) (h : laws_markWindow.f k a0 a1 = some r) : WCon Tryz.prog := ⟨48, [.t (.agg [.p false (.sc (.int .i64 a0.f0)), .p false (.sc (.int .i64 a0.f1)), .h 2]), .t (.c (.p false (.sc (.int .i64 a1))))], laws_markWindow.cin a0, laws_markWindow.cout r, .int .i64 r.1, rfl, laws_markWindow.okW k a0 a1 r h, laws_markWindow.go⟩

/-! ### laws_markWayS: function 110 -/
def laws_markWayS.h0T (xw : Nat → Value) (v668 : Int) (v669 : Int) (v667 : List S72) : List (Nat × AV) := [(0, .t (.c (.hv 0 (xw 0)))), (1, .t (.c (.p false (.sc (.int .i64 v668))))), (5, .t (.c (.p true (.sc (.int .i64 v669)))))]
def laws_markWayS.h0H (xw : Nat → Value) (v668 : Int) (v669 : Int) (v667 : List S72) : List (Nat × Content) := [(0, NC 72 3 S72.f0 (Value.int .i64) z72 0 v667)]
def laws_markWayS.l0 : Nat → List S72 → Int → Int → Option (Int × List S72)
  | 0, _, _, _ => none
  | kq + 1, v667, v668, v669 => if v669 < (v667.length : Int) then (if 0 ≤ v669 then ((laws_markIntS.f kq ((v667.getD v669.toNat z72).f0) v668).bind fun t670 => laws_markWayS.l0 kq  (v667.set v669.toNat (⟨t670.2⟩ : S72)) t670.1 (w64 (v669 + 1))) else none) else (some (v668, v667))
def laws_markWayS.f (k : Nat) (a0 : List S72) (a1 : Int) : Option (Int × List S72) := laws_markWayS.l0 k  a0 a1 0
theorem laws_markWayS.go : Callable Tryz.prog 110 := ⟨_, Tryz.func110, by kernel_rfl, rfl⟩
def laws_markWayS.cin (a0 : List S72) : List (Nat × Content) := [(0, NC 72 3 S72.f0 (Value.int .i64) z72 0 a0)]
def laws_markWayS.cout (r : Int × List S72) : List (Nat × Content) := [(0, NC 72 3 S72.f0 (Value.int .i64) z72 0 r.2)]
theorem laws_markWayS.flat (r : Int × List S72) : ∀ p ∈ laws_markWayS.cout r, flatP p.2 := (flatP_cons trivial flatP_nil)
theorem laws_markWayS.okW (k : Nat) (a0 : List S72) (a1 : Int) (r : Int × List S72) (h : laws_markWayS.f k a0 a1 = some r) : WOk Tryz.prog 110 [.t (.c (.hn 0)), .t (.c (.p false (.sc (.int .i64 a1))))] (laws_markWayS.cin a0) (laws_markWayS.cout r) (.int .i64 r.1) := by
  unfold laws_markWayS.f at h
  refine WOk.of (fn := Tryz.f110) (N := 20) Tryz.func110 rfl rfl rfl rfl rfl (laws_markWayS.flat r) (fun w0 xw hB hQ => ?_)
  have H0 : ∀ (kq : Nat) (v667 : List S72) (v668 : Int) (v669 : Int), laws_markWayS.l0 kq  v667 v668 v669 = some r → AG Tryz.prog 110 20 [.c (.p (.sc (.int .i64 r.1)))] w0 (headStk (codeOf Tryz.f110) 0) (mkFS (laws_markWayS.h0T xw v668 v669 v667) (laws_markWayS.h0H xw v668 v669 v667)) := by
    intro kq
    induction kq with
    | zero => intro v667 v668 v669 h; cases h
    | succ kq ih =>
      intro v667 v668 v669 h
      rw [laws_markWayS.l0] at h
      by_cases c2016 : v669 < (v667.length : Int)
      · replace h := (if_pos c2016).symm.trans h
        obtain ⟨c2017, h⟩ := ifN h
        obtain ⟨t670, g2018, h⟩ := bindN h
        let C2018 := laws_markIntS.con kq ((v667.getD v669.toNat z72).f0) v668 t670 g2018
        exact byHead MX Tryz.func110 1000 [.b true, .callI C2018, .aft 18, nrow 0 S72.f0 (Value.int .i64) z72 0 (v667.set v669.toNat (⟨t670.2⟩ : S72)), .fin] (o1 (decide_eq_true c2016) (o1 c2017 (o1 c2016 (o1 (rfl : C2018.f = C2018.f) (o1 (rfl : List.length ((v667.getD v669.toNat z72).f0) = List.length ((v667.getD v669.toNat z72).f0)) (o1 (innerEq (Value.int .i64) 0 ((v667.getD v669.toNat z72).f0)) (o1 (SC.of (e := (eI .i64)) (d := 0) t670.2 (by intro x; rfl)) (o1 (VE.refl (.sc (.int .i64 v668))) (o1 (GEN.set S72.f0 (Value.int .i64) z72 0 v667 v669.toNat (⟨t670.2⟩ : S72) (lt_toNat c2017 c2016) rfl (fun _ => rfl)) on))))))))) (ih (v667.set v669.toNat (⟨t670.2⟩ : S72)) t670.1 (w64 (v669 + 1)) h) (by kernel_rfl)
      · replace h := (if_neg c2016).symm.trans h
        cases h
        exact byRetW MX Tryz.func110 hB hQ (laws_markWayS.flat _) (T := [(0, .t (.c (.hv 0 (xw 0))))]) rfl 1000 [.b false, .fin, .fin] (o1 (decide_eq_false c2016) on) (by kernel_rfl)
  exact byHead MX Tryz.func110 1000 [.fin] on (H0 k a0 a1 0 h) (by kernel_rfl)
def laws_markWayS.con (k : Nat) (a0 : List S72) (a1 : Int) (r : Int × List S72) (h : laws_markWayS.f k a0 a1 = some r) : WCon Tryz.prog := ⟨110, [.t (.c (.hn 0)), .t (.c (.p false (.sc (.int .i64 a1))))], laws_markWayS.cin a0, laws_markWayS.cout r, .int .i64 r.1, rfl, laws_markWayS.okW k a0 a1 r h, laws_markWayS.go⟩

/-! ### laws_markPlan: function 49 -/
def laws_markPlan.f (k : Nat) (a0 : S45) (a1 : Int) : Option (Int × List S72) := (laws_markWayS.f k a0.f2 a1).bind fun t671 => some (t671.1, t671.2)
theorem laws_markPlan.go : Callable Tryz.prog 49 := ⟨_, Tryz.func49, by kernel_rfl, rfl⟩
def laws_markPlan.cin (a0 : S45) : List (Nat × Content) := [(2, NC 72 3 S72.f0 (Value.int .i64) z72 0 a0.f2)]
def laws_markPlan.cout (r : Int × List S72) : List (Nat × Content) := [(2, NC 72 3 S72.f0 (Value.int .i64) z72 0 r.2)]
theorem laws_markPlan.flat (r : Int × List S72) : ∀ p ∈ laws_markPlan.cout r, flatP p.2 := (flatP_cons trivial flatP_nil)
theorem laws_markPlan.okW (k : Nat) (a0 : S45) (a1 : Int) (r : Int × List S72) (h : laws_markPlan.f k a0 a1 = some r) : WOk Tryz.prog 49 [.t (.agg [.p false (.sc (.int .i64 a0.f0)), .p false (.sc (.int .i64 a0.f1)), .hn 2]), .t (.c (.p false (.sc (.int .i64 a1))))] (laws_markPlan.cin a0) (laws_markPlan.cout r) (.int .i64 r.1) := by
  unfold laws_markPlan.f at h
  refine WOk.of (fn := Tryz.f49) (N := 10) Tryz.func49 rfl rfl rfl rfl rfl (laws_markPlan.flat r) (fun w0 xw hB hQ => ?_)
  obtain ⟨t671, g2019, h⟩ := bindN h
  let C2019 := laws_markWayS.con k a0.f2 a1 t671 g2019
  cases h
  exact byRetW MX Tryz.func49 hB hQ (laws_markPlan.flat _) (T := [(0, .t (.agg [.p false (.sc (.int .i64 a0.f0)), .p false (.sc (.int .i64 a0.f1)), .hv 2 (xw 2)]))]) rfl 1000 [.callW C2019 [(0, 2)], .fin] (oa (scw_ C2019) on) (by kernel_rfl)
def laws_markPlan.con (k : Nat) (a0 : S45) (a1 : Int) (r : Int × List S72) (h : laws_markPlan.f k a0 a1 = some r) : WCon Tryz.prog := ⟨49, [.t (.agg [.p false (.sc (.int .i64 a0.f0)), .p false (.sc (.int .i64 a0.f1)), .hn 2]), .t (.c (.p false (.sc (.int .i64 a1))))], laws_markPlan.cin a0, laws_markPlan.cout r, .int .i64 r.1, rfl, laws_markPlan.okW k a0 a1 r h, laws_markPlan.go⟩

/-! ### laws_markJobS: function 50 -/
def laws_markJobS.h0T (xw : Nat → Value) (v677 : Int) (v678 : Int) (v676 : List S74) : List (Nat × AV) := [(0, .t (.c (.hv 0 (xw 0)))), (1, .t (.c (.p false (.sc (.int .i64 v677))))), (5, .t (.c (.p true (.sc (.int .i64 v678)))))]
def laws_markJobS.h0H (xw : Nat → Value) (v677 : Int) (v678 : Int) (v676 : List S74) : List (Nat × Content) := [(0, .row 74 3 v676.length (fun j => e74 (v676.getD j z74)) true)]
def laws_markJobS.l0 : Nat → List S74 → Int → Int → Option (Int × List S74)
  | 0, _, _, _ => none
  | kq + 1, v676, v677, v678 => if v678 < (v676.length : Int) then (if 0 ≤ v678 then (laws_markJobS.l0 kq  (v676.set v678.toNat (⟨v677, (w64 (v677 + 1)), (decide (((w64 ((w64 (v677 + 1)) + 1)).tmod 3) = 0))⟩ : S74)) (w64 ((w64 ((w64 (v677 + 1)) + 1)) + 1)) (w64 (v678 + 1))) else none) else (some (v677, v676))
def laws_markJobS.f (k : Nat) (a0 : List S74) (a1 : Int) : Option (Int × List S74) := laws_markJobS.l0 k  a0 a1 0
theorem laws_markJobS.go : Callable Tryz.prog 50 := ⟨_, Tryz.func50, by kernel_rfl, rfl⟩
def laws_markJobS.cin (a0 : List S74) : List (Nat × Content) := [(0, .row 74 3 a0.length (fun j => e74 (a0.getD j z74)) true)]
def laws_markJobS.cout (r : Int × List S74) : List (Nat × Content) := [(0, .row 74 3 r.2.length (fun j => e74 (r.2.getD j z74)) true)]
theorem laws_markJobS.flat (r : Int × List S74) : ∀ p ∈ laws_markJobS.cout r, flatP p.2 := (flatP_cons (SC.of (e := e74) (d := z74) r.2 (by intro x; rfl)) flatP_nil)
theorem laws_markJobS.okW (k : Nat) (a0 : List S74) (a1 : Int) (r : Int × List S74) (h : laws_markJobS.f k a0 a1 = some r) : WOk Tryz.prog 50 [.t (.c (.h 0)), .t (.c (.p false (.sc (.int .i64 a1))))] (laws_markJobS.cin a0) (laws_markJobS.cout r) (.int .i64 r.1) := by
  unfold laws_markJobS.f at h
  refine WOk.of (fn := Tryz.f50) (N := 36) Tryz.func50 rfl rfl rfl rfl rfl (laws_markJobS.flat r) (fun w0 xw hB hQ => ?_)
  have H0 : ∀ (kq : Nat) (v676 : List S74) (v677 : Int) (v678 : Int), laws_markJobS.l0 kq  v676 v677 v678 = some r → AG Tryz.prog 50 36 [.c (.p (.sc (.int .i64 r.1)))] w0 (headStk (codeOf Tryz.f50) 0) (mkFS (laws_markJobS.h0T xw v677 v678 v676) (laws_markJobS.h0H xw v677 v678 v676)) := by
    intro kq
    induction kq with
    | zero => intro v676 v677 v678 h; cases h
    | succ kq ih =>
      intro v676 v677 v678 h
      rw [laws_markJobS.l0] at h
      by_cases c2025 : v678 < (v676.length : Int)
      · replace h := (if_pos c2025).symm.trans h
        obtain ⟨c2026, h⟩ := ifN h
        exact byHead MX Tryz.func50 1000 [.b true, .aft 999999, orow 0 e74 z74 (v676.set v678.toNat (⟨v677, (rdD z74 v676 v678).f1, (rdD z74 v676 v678).f2⟩ : S74)), .aft 999999, orow 0 e74 z74 (v676.set v678.toNat (⟨v677, (w64 (v677 + 1)), (rdD z74 v676 v678).f2⟩ : S74)), .aft 999999, orow 0 e74 z74 (v676.set v678.toNat (⟨v677, (w64 (v677 + 1)), (decide (((w64 ((w64 (v677 + 1)) + 1)).tmod 3) = 0))⟩ : S74)), .fin] (o1 (decide_eq_true c2025) (o1 c2026 (o1 c2025 (o1 (GE.set (e := e74) (d := z74) v676 v678.toNat (⟨v677, (rdD z74 v676 v678).f1, (rdD z74 v676 v678).f2⟩ : S74) (lt_toNat c2026 c2025) rfl) (o1 c2026 (o1 (lt_set (k := v678.toNat) (v := (⟨v677, (rdD z74 v676 v678).f1, (rdD z74 v676 v678).f2⟩ : S74)) c2025) (o1 (GE.set2 (e := e74) (d := z74) v676 v678.toNat (⟨v677, (rdD z74 v676 v678).f1, (rdD z74 v676 v678).f2⟩ : S74) (⟨v677, (w64 (v677 + 1)), (rdD z74 v676 v678).f2⟩ : S74) (lt_toNat c2026 c2025) (f := fun u => splice u 1 [.sc (.int .i64 (w64 (v677 + 1)))]) rfl) (o1 (by decide : (3 : Int) ≠ 0) (o1 c2026 (o1 (lt_set (k := v678.toNat) (v := (⟨v677, (w64 (v677 + 1)), (rdD z74 v676 v678).f2⟩ : S74)) c2025) (o1 (GE.set2 (e := e74) (d := z74) v676 v678.toNat (⟨v677, (w64 (v677 + 1)), (rdD z74 v676 v678).f2⟩ : S74) (⟨v677, (w64 (v677 + 1)), (decide (((w64 ((w64 (v677 + 1)) + 1)).tmod 3) = 0))⟩ : S74) (lt_toNat c2026 c2025) (f := fun u => splice u 2 [.sc (.bool (decide (((w64 ((w64 (v677 + 1)) + 1)).tmod 3) = 0)))]) rfl) on))))))))))) (ih (v676.set v678.toNat (⟨v677, (w64 (v677 + 1)), (decide (((w64 ((w64 (v677 + 1)) + 1)).tmod 3) = 0))⟩ : S74)) (w64 ((w64 ((w64 (v677 + 1)) + 1)) + 1)) (w64 (v678 + 1)) h) (by kernel_rfl)
      · replace h := (if_neg c2025).symm.trans h
        cases h
        exact byRetW MX Tryz.func50 hB hQ (laws_markJobS.flat _) (T := [(0, .t (.c (.hv 0 (xw 0))))]) rfl 1000 [.b false, .fin, .fin] (o1 (decide_eq_false c2025) on) (by kernel_rfl)
  exact byHead MX Tryz.func50 1000 [.fin] on (H0 k a0 a1 0 h) (by kernel_rfl)
def laws_markJobS.con (k : Nat) (a0 : List S74) (a1 : Int) (r : Int × List S74) (h : laws_markJobS.f k a0 a1 = some r) : WCon Tryz.prog := ⟨50, [.t (.c (.h 0)), .t (.c (.p false (.sc (.int .i64 a1))))], laws_markJobS.cin a0, laws_markJobS.cout r, .int .i64 r.1, rfl, laws_markJobS.okW k a0 a1 r h, laws_markJobS.go⟩

/-! ### laws_markYard: function 13 -/
def laws_markYard.f (k : Nat) (a0 : S48) (a1 : Int) : Option (Int × List S69 × List Int × List S72 × List S74 × List Int) := (laws_markRobotS.f k a0.f1 a1).bind fun t652 => (laws_markWindow.f k a0.f2 t652.1).bind fun t660 => (laws_markPlan.f k a0.f5 t660.1).bind fun t672 => (laws_markJobS.f k a0.f6 t672.1).bind fun t679 => (laws_markIntS.f k a0.f7 t679.1).bind fun t680 => some (t680.1, t652.2, t660.2, t672.2, t679.2, t680.2)
theorem laws_markYard.go : Callable Tryz.prog 13 := ⟨_, Tryz.func13, by kernel_rfl, rfl⟩
def laws_markYard.cin (a0 : S48) : List (Nat × Content) := [(7, .row 69 4 a0.f1.length (fun j => e69 (a0.f1.getD j z69)) true), (10, .row 3 1 a0.f2.f2.length (fun j => (eI .i64) (a0.f2.f2.getD j 0)) true), (15, NC 72 3 S72.f0 (Value.int .i64) z72 0 a0.f5.f2), (16, .row 74 3 a0.f6.length (fun j => e74 (a0.f6.getD j z74)) true), (17, .row 3 1 a0.f7.length (fun j => (eI .i64) (a0.f7.getD j 0)) true)]
def laws_markYard.cout (r : Int × List S69 × List Int × List S72 × List S74 × List Int) : List (Nat × Content) := [(7, .row 69 4 r.2.1.length (fun j => e69 (r.2.1.getD j z69)) true), (10, .row 3 1 r.2.2.1.length (fun j => (eI .i64) (r.2.2.1.getD j 0)) true), (15, NC 72 3 S72.f0 (Value.int .i64) z72 0 r.2.2.2.1), (16, .row 74 3 r.2.2.2.2.1.length (fun j => e74 (r.2.2.2.2.1.getD j z74)) true), (17, .row 3 1 r.2.2.2.2.2.length (fun j => (eI .i64) (r.2.2.2.2.2.getD j 0)) true)]
theorem laws_markYard.flat (r : Int × List S69 × List Int × List S72 × List S74 × List Int) : ∀ p ∈ laws_markYard.cout r, flatP p.2 := (flatP_cons (SC.of (e := e69) (d := z69) r.2.1 (by intro x; rfl)) (flatP_cons (SC.of (e := (eI .i64)) (d := 0) r.2.2.1 (by intro x; rfl)) (flatP_cons trivial (flatP_cons (SC.of (e := e74) (d := z74) r.2.2.2.2.1 (by intro x; rfl)) (flatP_cons (SC.of (e := (eI .i64)) (d := 0) r.2.2.2.2.2 (by intro x; rfl)) flatP_nil)))))
theorem laws_markYard.okW (k : Nat) (a0 : S48) (a1 : Int) (r : Int × List S69 × List Int × List S72 × List S74 × List Int) (h : laws_markYard.f k a0 a1 = some r) : WOk Tryz.prog 13 [.t (.agg [.p false (.sc (.int .i64 a0.f0.f0.f0)), .p false (.sc (.int .i64 a0.f0.f0.f1)), .p false (.sc (.string a0.f0.f0.f2)), .p false (.sc (.int .i64 a0.f0.f1)), .p false (.sc (.int .i64 a0.f0.f2)), .p false (.sc (.int .i64 a0.f0.f3)), .p false (.sc (.int .i64 a0.f0.f4)), .h 7, .p false (.sc (.int .i64 a0.f2.f0)), .p false (.sc (.int .i64 a0.f2.f1)), .h 10, .p false (.sc (.int .i64 a0.f3)), .p false (.sc (.bool a0.f4)), .p false (.sc (.int .i64 a0.f5.f0)), .p false (.sc (.int .i64 a0.f5.f1)), .hn 15, .h 16, .h 17]), .t (.c (.p false (.sc (.int .i64 a1))))] (laws_markYard.cin a0) (laws_markYard.cout r) (.int .i64 r.1) := by
  unfold laws_markYard.f at h
  refine WOk.of (fn := Tryz.f13) (N := 26) Tryz.func13 rfl rfl rfl rfl rfl (laws_markYard.flat r) (fun w0 xw hB hQ => ?_)
  obtain ⟨t652, g2000, h⟩ := bindN h
  let C2000 := laws_markRobotS.con k a0.f1 a1 t652 g2000
  obtain ⟨t660, g2008, h⟩ := bindN h
  let C2008 := laws_markWindow.con k a0.f2 t652.1 t660 g2008
  obtain ⟨t672, g2020, h⟩ := bindN h
  let C2020 := laws_markPlan.con k a0.f5 t660.1 t672 g2020
  obtain ⟨t679, g2027, h⟩ := bindN h
  let C2027 := laws_markJobS.con k a0.f6 t672.1 t679 g2027
  obtain ⟨t680, g2028, h⟩ := bindN h
  let C2028 := laws_markIntS.con k a0.f7 t679.1 t680 g2028
  cases h
  exact byRetW MX Tryz.func13 hB hQ (laws_markYard.flat _) (T := [(0, .t (.agg [.p false (.sc (.int .i64 a0.f0.f0.f0)), .p false (.sc (.int .i64 a0.f0.f0.f1)), .p false (.sc (.string a0.f0.f0.f2)), .p false (.sc (.int .i64 a0.f0.f1)), .p false (.sc (.int .i64 a0.f0.f2)), .p false (.sc (.int .i64 a0.f0.f3)), .p false (.sc (.int .i64 a0.f0.f4)), .hv 7 (xw 7), .p false (.sc (.int .i64 a0.f2.f0)), .p false (.sc (.int .i64 a0.f2.f1)), .hv 10 (xw 10), .p false (.sc (.int .i64 a0.f3)), .p false (.sc (.bool a0.f4)), .p false (.sc (.int .i64 a0.f5.f0)), .p false (.sc (.int .i64 a0.f5.f1)), .hv 15 (xw 15), .hv 16 (xw 16), .hv 17 (xw 17)]))]) rfl 1000 [.callW C2000 [(0, 7)], .callW C2008 [(2, 10)], .callW C2020 [(2, 15)], .callW C2027 [(0, 16)], .callW C2028 [(0, 17)], .fin] (oa (scw_ C2000) (oa (scw_ C2008) (oa (scw_ C2020) (oa (scw_ C2027) (oa (scw_ C2028) on))))) (by kernel_rfl)
def laws_markYard.con (k : Nat) (a0 : S48) (a1 : Int) (r : Int × List S69 × List Int × List S72 × List S74 × List Int) (h : laws_markYard.f k a0 a1 = some r) : WCon Tryz.prog := ⟨13, [.t (.agg [.p false (.sc (.int .i64 a0.f0.f0.f0)), .p false (.sc (.int .i64 a0.f0.f0.f1)), .p false (.sc (.string a0.f0.f0.f2)), .p false (.sc (.int .i64 a0.f0.f1)), .p false (.sc (.int .i64 a0.f0.f2)), .p false (.sc (.int .i64 a0.f0.f3)), .p false (.sc (.int .i64 a0.f0.f4)), .h 7, .p false (.sc (.int .i64 a0.f2.f0)), .p false (.sc (.int .i64 a0.f2.f1)), .h 10, .p false (.sc (.int .i64 a0.f3)), .p false (.sc (.bool a0.f4)), .p false (.sc (.int .i64 a0.f5.f0)), .p false (.sc (.int .i64 a0.f5.f1)), .hn 15, .h 16, .h 17]), .t (.c (.p false (.sc (.int .i64 a1))))], laws_markYard.cin a0, laws_markYard.cout r, .int .i64 r.1, rfl, laws_markYard.okW k a0 a1 r h, laws_markYard.go⟩

/-! ### laws_markOrderS: function 19 -/
def laws_markOrderS.h0T (xw : Nat → Value) (v687 : Int) (v688 : Int) (v686 : List S92) : List (Nat × AV) := [(0, .t (.c (.hv 0 (xw 0)))), (1, .t (.c (.p false (.sc (.int .i64 v687))))), (5, .t (.c (.p true (.sc (.int .i64 v688)))))]
def laws_markOrderS.h0H (xw : Nat → Value) (v687 : Int) (v688 : Int) (v686 : List S92) : List (Nat × Content) := [(0, .row 92 3 v686.length (fun j => e92 (v686.getD j z92)) true)]
def laws_markOrderS.l0 : Nat → List S92 → Int → Int → Option (Int × List S92)
  | 0, _, _, _ => none
  | kq + 1, v686, v687, v688 => if v688 < (v686.length : Int) then (if 0 ≤ v688 then (laws_markOrderS.l0 kq  (v686.set v688.toNat (⟨v687, (w64 (v687 + 1)), (w64 ((w64 (v687 + 1)) + 1))⟩ : S92)) (w64 ((w64 ((w64 (v687 + 1)) + 1)) + 1)) (w64 (v688 + 1))) else none) else (some (v687, v686))
def laws_markOrderS.f (k : Nat) (a0 : List S92) (a1 : Int) : Option (Int × List S92) := laws_markOrderS.l0 k  a0 a1 0
theorem laws_markOrderS.go : Callable Tryz.prog 19 := ⟨_, Tryz.func19, by kernel_rfl, rfl⟩
def laws_markOrderS.cin (a0 : List S92) : List (Nat × Content) := [(0, .row 92 3 a0.length (fun j => e92 (a0.getD j z92)) true)]
def laws_markOrderS.cout (r : Int × List S92) : List (Nat × Content) := [(0, .row 92 3 r.2.length (fun j => e92 (r.2.getD j z92)) true)]
theorem laws_markOrderS.flat (r : Int × List S92) : ∀ p ∈ laws_markOrderS.cout r, flatP p.2 := (flatP_cons (SC.of (e := e92) (d := z92) r.2 (by intro x; rfl)) flatP_nil)
theorem laws_markOrderS.okW (k : Nat) (a0 : List S92) (a1 : Int) (r : Int × List S92) (h : laws_markOrderS.f k a0 a1 = some r) : WOk Tryz.prog 19 [.t (.c (.h 0)), .t (.c (.p false (.sc (.int .i64 a1))))] (laws_markOrderS.cin a0) (laws_markOrderS.cout r) (.int .i64 r.1) := by
  unfold laws_markOrderS.f at h
  refine WOk.of (fn := Tryz.f19) (N := 34) Tryz.func19 rfl rfl rfl rfl rfl (laws_markOrderS.flat r) (fun w0 xw hB hQ => ?_)
  have H0 : ∀ (kq : Nat) (v686 : List S92) (v687 : Int) (v688 : Int), laws_markOrderS.l0 kq  v686 v687 v688 = some r → AG Tryz.prog 19 34 [.c (.p (.sc (.int .i64 r.1)))] w0 (headStk (codeOf Tryz.f19) 0) (mkFS (laws_markOrderS.h0T xw v687 v688 v686) (laws_markOrderS.h0H xw v687 v688 v686)) := by
    intro kq
    induction kq with
    | zero => intro v686 v687 v688 h; cases h
    | succ kq ih =>
      intro v686 v687 v688 h
      rw [laws_markOrderS.l0] at h
      by_cases c2037 : v688 < (v686.length : Int)
      · replace h := (if_pos c2037).symm.trans h
        obtain ⟨c2038, h⟩ := ifN h
        exact byHead MX Tryz.func19 1000 [.b true, .aft 999999, orow 0 e92 z92 (v686.set v688.toNat (⟨v687, (rdD z92 v686 v688).f1, (rdD z92 v686 v688).f2⟩ : S92)), .aft 999999, orow 0 e92 z92 (v686.set v688.toNat (⟨v687, (w64 (v687 + 1)), (rdD z92 v686 v688).f2⟩ : S92)), .aft 999999, orow 0 e92 z92 (v686.set v688.toNat (⟨v687, (w64 (v687 + 1)), (w64 ((w64 (v687 + 1)) + 1))⟩ : S92)), .fin] (o1 (decide_eq_true c2037) (o1 c2038 (o1 c2037 (o1 (GE.set (e := e92) (d := z92) v686 v688.toNat (⟨v687, (rdD z92 v686 v688).f1, (rdD z92 v686 v688).f2⟩ : S92) (lt_toNat c2038 c2037) rfl) (o1 c2038 (o1 (lt_set (k := v688.toNat) (v := (⟨v687, (rdD z92 v686 v688).f1, (rdD z92 v686 v688).f2⟩ : S92)) c2037) (o1 (GE.set2 (e := e92) (d := z92) v686 v688.toNat (⟨v687, (rdD z92 v686 v688).f1, (rdD z92 v686 v688).f2⟩ : S92) (⟨v687, (w64 (v687 + 1)), (rdD z92 v686 v688).f2⟩ : S92) (lt_toNat c2038 c2037) (f := fun u => splice u 1 [.sc (.int .i64 (w64 (v687 + 1)))]) rfl) (o1 c2038 (o1 (lt_set (k := v688.toNat) (v := (⟨v687, (w64 (v687 + 1)), (rdD z92 v686 v688).f2⟩ : S92)) c2037) (o1 (GE.set2 (e := e92) (d := z92) v686 v688.toNat (⟨v687, (w64 (v687 + 1)), (rdD z92 v686 v688).f2⟩ : S92) (⟨v687, (w64 (v687 + 1)), (w64 ((w64 (v687 + 1)) + 1))⟩ : S92) (lt_toNat c2038 c2037) (f := fun u => splice u 2 [.sc (.int .i64 (w64 ((w64 (v687 + 1)) + 1)))]) rfl) on)))))))))) (ih (v686.set v688.toNat (⟨v687, (w64 (v687 + 1)), (w64 ((w64 (v687 + 1)) + 1))⟩ : S92)) (w64 ((w64 ((w64 (v687 + 1)) + 1)) + 1)) (w64 (v688 + 1)) h) (by kernel_rfl)
      · replace h := (if_neg c2037).symm.trans h
        cases h
        exact byRetW MX Tryz.func19 hB hQ (laws_markOrderS.flat _) (T := [(0, .t (.c (.hv 0 (xw 0))))]) rfl 1000 [.b false, .fin, .fin] (o1 (decide_eq_false c2037) on) (by kernel_rfl)
  exact byHead MX Tryz.func19 1000 [.fin] on (H0 k a0 a1 0 h) (by kernel_rfl)
def laws_markOrderS.con (k : Nat) (a0 : List S92) (a1 : Int) (r : Int × List S92) (h : laws_markOrderS.f k a0 a1 = some r) : WCon Tryz.prog := ⟨19, [.t (.c (.h 0)), .t (.c (.p false (.sc (.int .i64 a1))))], laws_markOrderS.cin a0, laws_markOrderS.cout r, .int .i64 r.1, rfl, laws_markOrderS.okW k a0 a1 r h, laws_markOrderS.go⟩
end Go.Proofs.YtoaknaceaghclaaGreat.V
