/- What each Go function computes, and that the machine does so: printed by a program of this session (avgen.py). -/
import Derived.Test.YtnnppdjmhellcaaGreatV10
namespace Go.Proofs.YtnnppdjmhellcaaGreat.V
open Go Go.Av Go.Proofs
set_option linter.unusedVariables false
set_option maxRecDepth 100000
/-! ### laws_eqJob: function 114 -/
def laws_eqJob.f (a0 : S69) (a1 : S69) : Option Bool := if a0.f0 = a1.f0 then (if a0.f1 = a1.f1 then (if (a0.f2 == a1.f2) = true then (some true) else (some false)) else (some false)) else (some false)
theorem laws_eqJob.go : Callable Tryz.prog 114 := ⟨_, Tryz.func114, by kernel_rfl, rfl⟩
theorem laws_eqJob.ok (a0 : S69) (a1 : S69) (r : Bool) (h : laws_eqJob.f a0 a1 = some r) : VCalls Tryz.prog 114 [.agg (e69 a0), .agg (e69 a1)] [.c (.p (.sc (.bool r)))] := by
  unfold laws_eqJob.f at h
  refine VCalls.of (fn := Tryz.f114) (N := 20) Tryz.func114 rfl rfl (fun w0 => ?_)
  by_cases c1883 : a0.f0 = a1.f0
  · replace h := (if_pos c1883).symm.trans h
    by_cases c1884 : a0.f1 = a1.f1
    · replace h := (if_pos c1884).symm.trans h
      by_cases c1885 : (a0.f2 == a1.f2) = true
      · replace h := (if_pos c1885).symm.trans h
        cases h
        exact byRet MX Tryz.func114 1000 [.b false, .b false, .b false, .fin] (o1 (bnf (decide_eq_true c1883)) (o1 (bnf (decide_eq_true c1884)) (o1 (bnf c1885) on))) (by kernel_rfl)
      · replace h := (if_neg c1885).symm.trans h
        cases h
        exact byRet MX Tryz.func114 1000 [.b false, .b false, .b true, .fin] (o1 (bnf (decide_eq_true c1883)) (o1 (bnf (decide_eq_true c1884)) (o1 (bnt (eqf c1885)) on))) (by kernel_rfl)
    · replace h := (if_neg c1884).symm.trans h
      cases h
      exact byRet MX Tryz.func114 1000 [.b false, .b true, .fin] (o1 (bnf (decide_eq_true c1883)) (o1 (bnt (decide_eq_false c1884)) on)) (by kernel_rfl)
  · replace h := (if_neg c1883).symm.trans h
    cases h
    exact byRet MX Tryz.func114 1000 [.b true, .fin] (o1 (bnt (decide_eq_false c1883)) on) (by kernel_rfl)

/-! ### laws_eqJobS: function 57 -/
def laws_eqJobS.h0T (a0 : List S69) (a1 : List S69) (v617 : Int) : List (Nat × AV) := [(0, .t (.c (.p false (R 3 e69 z69 a0)))), (1, .t (.c (.p false (R 3 e69 z69 a1)))), (5, .t (.c (.p true (.sc (.int .i64 v617)))))]
def laws_eqJobS.h0H (a0 : List S69) (a1 : List S69) (v617 : Int) : List (Nat × Content) := []
def laws_eqJobS.l0 : Nat → List S69 → List S69 → Int → Option Bool
  | 0, _, _, _ => none
  | kq + 1, a0, a1, v617 => if v617 < (a0.length : Int) then (if 0 ≤ v617 then (if v617 < (a1.length : Int) then ((laws_eqJob.f (rdD z69 a0 v617) (rdD z69 a1 v617)).bind fun t618 => if t618 = true then (laws_eqJobS.l0 kq a0 a1 (w64 (v617 + 1))) else (some false)) else none) else none) else (some true)
def laws_eqJobS.f (k : Nat) (a0 : List S69) (a1 : List S69) : Option Bool := if (a0.length : Int) = (a1.length : Int) then (laws_eqJobS.l0 k a0 a1 0) else (some false)
theorem laws_eqJobS.go : Callable Tryz.prog 57 := ⟨_, Tryz.func57, by kernel_rfl, rfl⟩
theorem laws_eqJobS.ok (k : Nat) (a0 : List S69) (a1 : List S69) (r : Bool) (h : laws_eqJobS.f k a0 a1 = some r) : VCalls Tryz.prog 57 [.c (R 3 e69 z69 a0), .c (R 3 e69 z69 a1)] [.c (.p (.sc (.bool r)))] := by
  unfold laws_eqJobS.f at h
  refine VCalls.of (fn := Tryz.f57) (N := 27) Tryz.func57 rfl rfl (fun w0 => ?_)
  by_cases c1880 : (a0.length : Int) = (a1.length : Int)
  · replace h := (if_pos c1880).symm.trans h
    have H0 : ∀ (kq : Nat) (v617 : Int), laws_eqJobS.l0 kq a0 a1 v617 = some r → AG Tryz.prog 57 27 [.c (.p (.sc (.bool r)))] w0 (headStk (codeOf Tryz.f57) 0) (mkFS (laws_eqJobS.h0T a0 a1 v617) (laws_eqJobS.h0H a0 a1 v617)) := by
      intro kq
      induction kq with
      | zero => intro v617 h; cases h
      | succ kq ih =>
        intro v617 h
        rw [laws_eqJobS.l0] at h
        by_cases c1888 : v617 < (a0.length : Int)
        · replace h := (if_pos c1888).symm.trans h
          obtain ⟨c1889, h⟩ := ifN h
          obtain ⟨c1890, h⟩ := ifN h
          obtain ⟨t618, g1891, h⟩ := bindN h
          let C1891 := mkCon (laws_eqJob.ok (rdD z69 a0 v617) (rdD z69 a1 v617) t618 g1891) laws_eqJob.go
          by_cases c1892 : t618 = true
          · replace h := (if_pos c1892).symm.trans h
            exact byHead MX Tryz.func57 1000 [.b true, .call C1891, .b false, .fin] (o1 (decide_eq_true c1888) (o1 c1889 (o1 c1888 (o1 c1889 (o1 c1890 (oa (sc_ C1891) (o1 (bnf c1892) on))))))) (ih (w64 (v617 + 1)) h) (by kernel_rfl)
          · replace h := (if_neg c1892).symm.trans h
            cases h
            exact byRet MX Tryz.func57 1000 [.b true, .call C1891, .b true, .fin] (o1 (decide_eq_true c1888) (o1 c1889 (o1 c1888 (o1 c1889 (o1 c1890 (oa (sc_ C1891) (o1 (bnt (eqf c1892)) on))))))) (by kernel_rfl)
        · replace h := (if_neg c1888).symm.trans h
          cases h
          exact byRet MX Tryz.func57 1000 [.b false, .fin, .fin] (o1 (decide_eq_false c1888) on) (by kernel_rfl)
    exact byHead MX Tryz.func57 1000 [.b false, .fin] (o1 (bnf (decide_eq_true c1880)) on) (H0 k 0 h) (by kernel_rfl)
  · replace h := (if_neg c1880).symm.trans h
    cases h
    exact byRet MX Tryz.func57 1000 [.b true, .fin] (o1 (bnt (decide_eq_false c1880)) on) (by kernel_rfl)

/-! ### laws_eqYard: function 10 -/
def laws_eqYard.f (k : Nat) (a0 : S48) (a1 : S48) : Option Bool := (laws_eqSetup.f a0.f0 a1.f0).bind fun t602 => if t602 = true then ((laws_eqRobotS.f k a0.f1 a1.f1).bind fun t606 => if t606 = true then ((laws_eqWindow.f k a0.f2 a1.f2).bind fun t609 => if t609 = true then (if a0.f3 = a1.f3 then (if (a0.f4 == a1.f4) = true then ((laws_eqPlan.f k a0.f5 a1.f5).bind fun t615 => if t615 = true then ((laws_eqJobS.f k a0.f6 a1.f6).bind fun t619 => if t619 = true then ((laws_eqIntS.f k a0.f7 a1.f7).bind fun t620 => if t620 = true then (some true) else (some false)) else (some false)) else (some false)) else (some false)) else (some false)) else (some false)) else (some false)) else (some false)
theorem laws_eqYard.go : Callable Tryz.prog 10 := ⟨_, Tryz.func10, by kernel_rfl, rfl⟩
theorem laws_eqYard.ok (k : Nat) (a0 : S48) (a1 : S48) (r : Bool) (h : laws_eqYard.f k a0 a1 = some r) : VCalls Tryz.prog 10 [.agg (e48 a0), .agg (e48 a1)] [.c (.p (.sc (.bool r)))] := by
  unfold laws_eqYard.f at h
  refine VCalls.of (fn := Tryz.f10) (N := 51) Tryz.func10 rfl rfl (fun w0 => ?_)
  obtain ⟨t602, g1828, h⟩ := bindN h
  let C1828 := mkCon (laws_eqSetup.ok a0.f0 a1.f0 t602 g1828) laws_eqSetup.go
  by_cases c1829 : t602 = true
  · replace h := (if_pos c1829).symm.trans h
    obtain ⟨t606, g1844, h⟩ := bindN h
    let C1844 := mkCon (laws_eqRobotS.ok k a0.f1 a1.f1 t606 g1844) laws_eqRobotS.go
    by_cases c1845 : t606 = true
    · replace h := (if_pos c1845).symm.trans h
      obtain ⟨t609, g1858, h⟩ := bindN h
      let C1858 := mkCon (laws_eqWindow.ok k a0.f2 a1.f2 t609 g1858) laws_eqWindow.go
      by_cases c1859 : t609 = true
      · replace h := (if_pos c1859).symm.trans h
        by_cases c1860 : a0.f3 = a1.f3
        · replace h := (if_pos c1860).symm.trans h
          by_cases c1861 : (a0.f4 == a1.f4) = true
          · replace h := (if_pos c1861).symm.trans h
            obtain ⟨t615, g1878, h⟩ := bindN h
            let C1878 := mkCon (laws_eqPlan.ok k a0.f5 a1.f5 t615 g1878) laws_eqPlan.go
            by_cases c1879 : t615 = true
            · replace h := (if_pos c1879).symm.trans h
              obtain ⟨t619, g1893, h⟩ := bindN h
              let C1893 := mkCon (laws_eqJobS.ok k a0.f6 a1.f6 t619 g1893) laws_eqJobS.go
              by_cases c1894 : t619 = true
              · replace h := (if_pos c1894).symm.trans h
                obtain ⟨t620, g1895, h⟩ := bindN h
                let C1895 := mkCon (laws_eqIntS.ok k a0.f7 a1.f7 t620 g1895) laws_eqIntS.go
                by_cases c1896 : t620 = true
                · replace h := (if_pos c1896).symm.trans h
                  cases h
                  exact byRet MX Tryz.func10 1000 [.call C1828, .b false, .call C1844, .b false, .call C1858, .b false, .b false, .b false, .call C1878, .b false, .call C1893, .b false, .call C1895, .b false, .fin] (oa (sc_ C1828) (o1 (bnf c1829) (oa (sc_ C1844) (o1 (bnf c1845) (oa (sc_ C1858) (o1 (bnf c1859) (o1 (bnf (decide_eq_true c1860)) (o1 (bnf c1861) (oa (sc_ C1878) (o1 (bnf c1879) (oa (sc_ C1893) (o1 (bnf c1894) (oa (sc_ C1895) (o1 (bnf c1896) on)))))))))))))) (by kernel_rfl)
                · replace h := (if_neg c1896).symm.trans h
                  cases h
                  exact byRet MX Tryz.func10 1000 [.call C1828, .b false, .call C1844, .b false, .call C1858, .b false, .b false, .b false, .call C1878, .b false, .call C1893, .b false, .call C1895, .b true, .fin] (oa (sc_ C1828) (o1 (bnf c1829) (oa (sc_ C1844) (o1 (bnf c1845) (oa (sc_ C1858) (o1 (bnf c1859) (o1 (bnf (decide_eq_true c1860)) (o1 (bnf c1861) (oa (sc_ C1878) (o1 (bnf c1879) (oa (sc_ C1893) (o1 (bnf c1894) (oa (sc_ C1895) (o1 (bnt (eqf c1896)) on)))))))))))))) (by kernel_rfl)
              · replace h := (if_neg c1894).symm.trans h
                cases h
                exact byRet MX Tryz.func10 1000 [.call C1828, .b false, .call C1844, .b false, .call C1858, .b false, .b false, .b false, .call C1878, .b false, .call C1893, .b true, .fin] (oa (sc_ C1828) (o1 (bnf c1829) (oa (sc_ C1844) (o1 (bnf c1845) (oa (sc_ C1858) (o1 (bnf c1859) (o1 (bnf (decide_eq_true c1860)) (o1 (bnf c1861) (oa (sc_ C1878) (o1 (bnf c1879) (oa (sc_ C1893) (o1 (bnt (eqf c1894)) on)))))))))))) (by kernel_rfl)
            · replace h := (if_neg c1879).symm.trans h
              cases h
              exact byRet MX Tryz.func10 1000 [.call C1828, .b false, .call C1844, .b false, .call C1858, .b false, .b false, .b false, .call C1878, .b true, .fin] (oa (sc_ C1828) (o1 (bnf c1829) (oa (sc_ C1844) (o1 (bnf c1845) (oa (sc_ C1858) (o1 (bnf c1859) (o1 (bnf (decide_eq_true c1860)) (o1 (bnf c1861) (oa (sc_ C1878) (o1 (bnt (eqf c1879)) on)))))))))) (by kernel_rfl)
          · replace h := (if_neg c1861).symm.trans h
            cases h
            exact byRet MX Tryz.func10 1000 [.call C1828, .b false, .call C1844, .b false, .call C1858, .b false, .b false, .b true, .fin] (oa (sc_ C1828) (o1 (bnf c1829) (oa (sc_ C1844) (o1 (bnf c1845) (oa (sc_ C1858) (o1 (bnf c1859) (o1 (bnf (decide_eq_true c1860)) (o1 (bnt (eqf c1861)) on)))))))) (by kernel_rfl)
        · replace h := (if_neg c1860).symm.trans h
          cases h
          exact byRet MX Tryz.func10 1000 [.call C1828, .b false, .call C1844, .b false, .call C1858, .b false, .b true, .fin] (oa (sc_ C1828) (o1 (bnf c1829) (oa (sc_ C1844) (o1 (bnf c1845) (oa (sc_ C1858) (o1 (bnf c1859) (o1 (bnt (decide_eq_false c1860)) on))))))) (by kernel_rfl)
      · replace h := (if_neg c1859).symm.trans h
        cases h
        exact byRet MX Tryz.func10 1000 [.call C1828, .b false, .call C1844, .b false, .call C1858, .b true, .fin] (oa (sc_ C1828) (o1 (bnf c1829) (oa (sc_ C1844) (o1 (bnf c1845) (oa (sc_ C1858) (o1 (bnt (eqf c1859)) on)))))) (by kernel_rfl)
    · replace h := (if_neg c1845).symm.trans h
      cases h
      exact byRet MX Tryz.func10 1000 [.call C1828, .b false, .call C1844, .b true, .fin] (oa (sc_ C1828) (o1 (bnf c1829) (oa (sc_ C1844) (o1 (bnt (eqf c1845)) on)))) (by kernel_rfl)
  · replace h := (if_neg c1829).symm.trans h
    cases h
    exact byRet MX Tryz.func10 1000 [.call C1828, .b true, .fin] (oa (sc_ C1828) (o1 (bnt (eqf c1829)) on)) (by kernel_rfl)

/-! ### laws_FnExactYardOk: function 3 -/
def laws_FnExactYardOk.f (k : Nat) (a0 : S35) : Option Bool := (laws_szYard.f k a0 1048576).bind fun t17 => if t17 < 0 then (some true) else ((laws_toYard.f k a0).bind fun t49 => (spec_YardOk.f k t49).bind fun t305 => (laws_toYard.f k a0).bind fun t306 => (impl_YardOk.f k t306).bind fun t599 => if (t599 == t305) = true then ((laws_toYard.f k a0).bind fun t600 => (laws_eqYard.f k t306 t600).bind fun t621 => if t621 = true then (some true) else (some false)) else (some false))
theorem laws_FnExactYardOk.go : Callable Tryz.prog 3 := ⟨_, Tryz.func3, by kernel_rfl, rfl⟩
theorem laws_FnExactYardOk.ok (k : Nat) (a0 : S35) (r : Bool) (h : laws_FnExactYardOk.f k a0 = some r) : VCalls Tryz.prog 3 [.agg (e35 a0)] [.c (.p (.sc (.bool r)))] := by
  unfold laws_FnExactYardOk.f at h
  refine VCalls.of (fn := Tryz.f3) (N := 27) Tryz.func3 rfl rfl (fun w0 => ?_)
  obtain ⟨t17, g36, h⟩ := bindN h
  let C36 := mkCon (laws_szYard.ok k a0 1048576 t17 g36) laws_szYard.go
  by_cases c37 : t17 < 0
  · replace h := (if_pos c37).symm.trans h
    cases h
    exact byRet MX Tryz.func3 1000 [.call C36, .b true, .fin] (oa (sc_ C36) (o1 (decide_eq_true c37) on)) (by kernel_rfl)
  · replace h := (if_neg c37).symm.trans h
    obtain ⟨t49, g97, h⟩ := bindN h
    let C97 := mkCon (laws_toYard.ok k a0 t49 g97) laws_toYard.go
    obtain ⟨t305, g941, h⟩ := bindN h
    let C941 := mkCon (spec_YardOk.ok k t49 t305 g941) spec_YardOk.go
    obtain ⟨t306, g942, h⟩ := bindN h
    let C942 := mkCon (laws_toYard.ok k a0 t306 g942) laws_toYard.go
    obtain ⟨t599, g1816, h⟩ := bindN h
    let C1816 := mkCon (impl_YardOk.ok k t306 t599 g1816) impl_YardOk.go
    by_cases c1817 : (t599 == t305) = true
    · replace h := (if_pos c1817).symm.trans h
      obtain ⟨t600, g1818, h⟩ := bindN h
      let C1818 := mkCon (laws_toYard.ok k a0 t600 g1818) laws_toYard.go
      obtain ⟨t621, g1897, h⟩ := bindN h
      let C1897 := mkCon (laws_eqYard.ok k t306 t600 t621 g1897) laws_eqYard.go
      by_cases c1898 : t621 = true
      · replace h := (if_pos c1898).symm.trans h
        cases h
        exact byRet MX Tryz.func3 1000 [.call C36, .b false, .call C97, .call C941, .call C942, .call C1816, .b false, .call C1818, .call C1897, .b false, .fin] (oa (sc_ C36) (o1 (decide_eq_false c37) (oa (sc_ C97) (oa (sc_ C941) (oa (sc_ C942) (oa (sc_ C1816) (o1 (bnf c1817) (oa (sc_ C1818) (oa (sc_ C1897) (o1 (bnf c1898) on)))))))))) (by kernel_rfl)
      · replace h := (if_neg c1898).symm.trans h
        cases h
        exact byRet MX Tryz.func3 1000 [.call C36, .b false, .call C97, .call C941, .call C942, .call C1816, .b false, .call C1818, .call C1897, .b true, .fin] (oa (sc_ C36) (o1 (decide_eq_false c37) (oa (sc_ C97) (oa (sc_ C941) (oa (sc_ C942) (oa (sc_ C1816) (o1 (bnf c1817) (oa (sc_ C1818) (oa (sc_ C1897) (o1 (bnt (eqf c1898)) on)))))))))) (by kernel_rfl)
    · replace h := (if_neg c1817).symm.trans h
      cases h
      exact byRet MX Tryz.func3 1000 [.call C36, .b false, .call C97, .call C941, .call C942, .call C1816, .b true, .fin] (oa (sc_ C36) (o1 (decide_eq_false c37) (oa (sc_ C97) (oa (sc_ C941) (oa (sc_ C942) (oa (sc_ C1816) (o1 (bnt (eqf c1817)) on))))))) (by kernel_rfl)

/-! ### spec_AllIn: function 11 -/
def spec_AllIn.h0T (v624 : Int) (a0 : S48) : List (Nat × AV) := [(1, .ptr 64 0), (3, .t (.c (.p true (.sc (.int .i64 v624)))))]
def spec_AllIn.h0H (v624 : Int) (a0 : S48) : List (Nat × Content) := [(64, .box 48 [.p false (.sc (.int .i64 a0.f0.f0.f0)), .p false (.sc (.int .i64 a0.f0.f0.f1)), .p false (.sc (.string a0.f0.f0.f2)), .p false (.sc (.int .i64 a0.f0.f1)), .p false (.sc (.int .i64 a0.f0.f2)), .p false (.sc (.int .i64 a0.f0.f3)), .p false (.sc (.int .i64 a0.f0.f4)), .p false (R 4 e71 z71 a0.f1), .p false (.sc (.int .i64 a0.f2.f0)), .p false (.sc (.int .i64 a0.f2.f1)), .p false (R 1 (eI .i64) 0 a0.f2.f2), .p false (.sc (.int .i64 a0.f3)), .p false (.sc (.bool a0.f4)), .p false (.sc (.int .i64 a0.f5.f0)), .p false (.sc (.int .i64 a0.f5.f1)), .p false (R 1 e65 z65 a0.f5.f2), .p false (R 3 e69 z69 a0.f6), .p false (R 1 (eI .i64) 0 a0.f7)])]
def spec_AllIn.l0 : Nat → S48 → Int → Option Bool
  | 0, _, _ => none
  | kq + 1, a0, v624 => if v624 < (a0.f6.length : Int) then (if 0 ≤ v624 then (if (rdD z69 a0.f6 v624).f2 = true then (some false) else (spec_AllIn.l0 kq a0 (w64 (v624 + 1)))) else none) else ((spec_YardOk.f kq a0).bind fun t625 => some t625)
def spec_AllIn.f (k : Nat) (a0 : S48) : Option Bool := spec_AllIn.l0 k a0 0
theorem spec_AllIn.go : Callable Tryz.prog 11 := ⟨_, Tryz.func11, by kernel_rfl, rfl⟩
theorem spec_AllIn.ok (k : Nat) (a0 : S48) (r : Bool) (h : spec_AllIn.f k a0 = some r) : VCalls Tryz.prog 11 [.agg (e48 a0)] [.c (.p (.sc (.bool r)))] := by
  unfold spec_AllIn.f at h
  refine VCalls.of (fn := Tryz.f11) (N := 19) Tryz.func11 rfl rfl (fun w0 => ?_)
  have H0 : ∀ (kq : Nat) (v624 : Int), spec_AllIn.l0 kq a0 v624 = some r → AG Tryz.prog 11 19 [.c (.p (.sc (.bool r)))] w0 (headStk (codeOf Tryz.f11) 0) (mkFS (spec_AllIn.h0T v624 a0) (spec_AllIn.h0H v624 a0)) := by
    intro kq
    induction kq with
    | zero => intro v624 h; cases h
    | succ kq ih =>
      intro v624 h
      rw [spec_AllIn.l0] at h
      by_cases c1904 : v624 < (a0.f6.length : Int)
      · replace h := (if_pos c1904).symm.trans h
        obtain ⟨c1905, h⟩ := ifN h
        by_cases c1906 : (rdD z69 a0.f6 v624).f2 = true
        · replace h := (if_pos c1906).symm.trans h
          cases h
          exact byRet MX Tryz.func11 1000 [.b true, .b true, .fin] (o1 (decide_eq_true c1904) (o1 c1905 (o1 c1904 (o1 c1906 on)))) (by kernel_rfl)
        · replace h := (if_neg c1906).symm.trans h
          exact byHead MX Tryz.func11 1000 [.b true, .b false, .fin] (o1 (decide_eq_true c1904) (o1 c1905 (o1 c1904 (o1 (eqf c1906) on)))) (ih (w64 (v624 + 1)) h) (by kernel_rfl)
      · replace h := (if_neg c1904).symm.trans h
        obtain ⟨t625, g1907, h⟩ := bindN h
        let C1907 := mkCon (spec_YardOk.ok kq a0 t625 g1907) spec_YardOk.go
        cases h
        exact byRet MX Tryz.func11 1000 [.b false, .fin, .call C1907, .fin] (o1 (decide_eq_false c1904) (oa (sc_ C1907) on)) (by kernel_rfl)
  exact byHead MX Tryz.func11 1000 [.fin] on (H0 k 0 h) (by kernel_rfl)

/-! ### impl_AllIn_1: function 59 -/
def impl_AllIn_1.f (a0 : S69) : Option Bool := some a0.f2
theorem impl_AllIn_1.go : Callable Tryz.prog 59 := ⟨_, Tryz.func59, by kernel_rfl, rfl⟩
theorem impl_AllIn_1.ok (a0 : S69) (r : Bool) (h : impl_AllIn_1.f a0 = some r) : VCalls Tryz.prog 59 [.agg (e69 a0)] [.c (.p (.sc (.bool r)))] := by
  unfold impl_AllIn_1.f at h
  refine VCalls.of (fn := Tryz.f59) (N := 5) Tryz.func59 rfl rfl (fun w0 => ?_)
  cases h
  exact byRet MX Tryz.func59 1000 [.fin] on (by kernel_rfl)

/-! ### slices_IndexFunc_impl_Job_impl_Job_: function 108 -/
def slices_IndexFunc_impl_Job_impl_Job_.h0T (a0 : List S69) (gi1 : FuncId) (v630 : Int) : List (Nat × AV) := [(0, .t (.c (.p false (R 3 e69 z69 a0)))), (1, .bfn gi1 []), (7, .t (.c (.p true (.sc (.int .i64 (a0.length : Int)))))), (8, .t (.c (.p true (.sc (.int .i64 v630)))))]
def slices_IndexFunc_impl_Job_impl_Job_.h0H (a0 : List S69) (gi1 : FuncId) (v630 : Int) : List (Nat × Content) := []
def slices_IndexFunc_impl_Job_impl_Job_.l0 : Nat → List S69 → (S69 → Option Bool) → Int → Option Int
  | 0, _, _, _ => none
  | kq + 1, a0, p1, v630 => if v630 < (a0.length : Int) then (if 0 ≤ v630 then ((p1 (rdD z69 a0 v630)).bind fun t631 => if t631 = true then (some v630) else (slices_IndexFunc_impl_Job_impl_Job_.l0 kq a0 p1 (w64 (v630 + 1)))) else none) else (some (-1))
def slices_IndexFunc_impl_Job_impl_Job_.f (k : Nat) (a0 : List S69) (p1 : S69 → Option Bool) : Option Int := slices_IndexFunc_impl_Job_impl_Job_.l0 k a0 p1 0
theorem slices_IndexFunc_impl_Job_impl_Job_.go : Callable Tryz.prog 108 := ⟨_, Tryz.func108, by kernel_rfl, rfl⟩
theorem slices_IndexFunc_impl_Job_impl_Job_.ok (k : Nat) (a0 : List S69) (p1 : S69 → Option Bool) (gi1 : FuncId) (hp1 : ∀ x0 r, p1 x0 = some r → VCalls Tryz.prog gi1 [.agg (e69 x0)] [.c (.p (.sc (.bool r)))]) (go1 : Callable Tryz.prog gi1) (r : Int) (h : slices_IndexFunc_impl_Job_impl_Job_.f k a0 p1 = some r) : VCalls Tryz.prog 108 [.c (R 3 e69 z69 a0), .fn gi1 []] [.c (.p (.sc (.int .i64 r)))] := by
  unfold slices_IndexFunc_impl_Job_impl_Job_.f at h
  refine VCalls.of (fn := Tryz.f108) (N := 19) Tryz.func108 rfl rfl (fun w0 => ?_)
  have H0 : ∀ (kq : Nat) (v630 : Int), slices_IndexFunc_impl_Job_impl_Job_.l0 kq a0 p1 v630 = some r → AG Tryz.prog 108 19 [.c (.p (.sc (.int .i64 r)))] w0 (headStk (codeOf Tryz.f108) 0) (mkFS (slices_IndexFunc_impl_Job_impl_Job_.h0T a0 gi1 v630) (slices_IndexFunc_impl_Job_impl_Job_.h0H a0 gi1 v630)) := by
    intro kq
    induction kq with
    | zero => intro v630 h; cases h
    | succ kq ih =>
      intro v630 h
      rw [slices_IndexFunc_impl_Job_impl_Job_.l0] at h
      by_cases c1916 : v630 < (a0.length : Int)
      · replace h := (if_pos c1916).symm.trans h
        obtain ⟨c1917, h⟩ := ifN h
        obtain ⟨t631, g1918, h⟩ := bindN h
        let C1918 := mkCon (hp1 (rdD z69 a0 v630) t631 g1918) go1
        by_cases c1919 : t631 = true
        · replace h := (if_pos c1919).symm.trans h
          cases h
          exact byRet MX Tryz.func108 1000 [.b true, .call C1918, .b true, .fin] (o1 (decide_eq_true c1916) (o1 c1917 (o1 c1916 (oa (sc_ C1918) (o1 c1919 on))))) (by kernel_rfl)
        · replace h := (if_neg c1919).symm.trans h
          exact byHead MX Tryz.func108 1000 [.b true, .call C1918, .b false, .fin] (o1 (decide_eq_true c1916) (o1 c1917 (o1 c1916 (oa (sc_ C1918) (o1 (eqf c1919) on))))) (ih (w64 (v630 + 1)) h) (by kernel_rfl)
      · replace h := (if_neg c1916).symm.trans h
        cases h
        exact byRet MX Tryz.func108 1000 [.b false, .fin, .fin] (o1 (decide_eq_false c1916) on) (by kernel_rfl)
  exact byHead MX Tryz.func108 1000 [.fin] on (H0 k 0 h) (by kernel_rfl)

/-! ### slices_ContainsFunc_impl_Job_impl_Job_: function 47 -/
def slices_ContainsFunc_impl_Job_impl_Job_.f (k : Nat) (a0 : List S69) (p1 : S69 → Option Bool) : Option Bool := (slices_IndexFunc_impl_Job_impl_Job_.f k a0 p1).bind fun t632 => some (decide (0 ≤ t632))
theorem slices_ContainsFunc_impl_Job_impl_Job_.go : Callable Tryz.prog 47 := ⟨_, Tryz.func47, by kernel_rfl, rfl⟩
theorem slices_ContainsFunc_impl_Job_impl_Job_.ok (k : Nat) (a0 : List S69) (p1 : S69 → Option Bool) (gi1 : FuncId) (hp1 : ∀ x0 r, p1 x0 = some r → VCalls Tryz.prog gi1 [.agg (e69 x0)] [.c (.p (.sc (.bool r)))]) (go1 : Callable Tryz.prog gi1) (r : Bool) (h : slices_ContainsFunc_impl_Job_impl_Job_.f k a0 p1 = some r) : VCalls Tryz.prog 47 [.c (R 3 e69 z69 a0), .fn gi1 []] [.c (.p (.sc (.bool r)))] := by
  unfold slices_ContainsFunc_impl_Job_impl_Job_.f at h
  refine VCalls.of (fn := Tryz.f47) (N := 9) Tryz.func47 rfl rfl (fun w0 => ?_)
  obtain ⟨t632, g1920, h⟩ := bindN h
  let C1920 := mkCon (slices_IndexFunc_impl_Job_impl_Job_.ok k a0 p1 gi1  hp1 go1 t632 g1920) slices_IndexFunc_impl_Job_impl_Job_.go
  cases h
  exact byRet MX Tryz.func47 1000 [.call C1920, .fin] (oa (sc_ C1920) on) (by kernel_rfl)

/-! ### impl_AllIn: function 12 -/
def impl_AllIn.f (k : Nat) (a0 : S48) : Option Bool := (impl_YardOk.f k a0).bind fun t628 => if t628 = true then ((slices_ContainsFunc_impl_Job_impl_Job_.f k a0.f6 (fun x1912 => impl_AllIn_1.f x1912)).bind fun t633 => some (!t633)) else (some false)
theorem impl_AllIn.go : Callable Tryz.prog 12 := ⟨_, Tryz.func12, by kernel_rfl, rfl⟩
theorem impl_AllIn.ok (k : Nat) (a0 : S48) (r : Bool) (h : impl_AllIn.f k a0 = some r) : VCalls Tryz.prog 12 [.agg (e48 a0)] [.c (.p (.sc (.bool r)))] := by
  unfold impl_AllIn.f at h
  refine VCalls.of (fn := Tryz.f12) (N := 11) Tryz.func12 rfl rfl (fun w0 => ?_)
  obtain ⟨t628, g1910, h⟩ := bindN h
  let C1910 := mkCon (impl_YardOk.ok k a0 t628 g1910) impl_YardOk.go
  by_cases c1911 : t628 = true
  · replace h := (if_pos c1911).symm.trans h
    obtain ⟨t633, g1921, h⟩ := bindN h
    let C1921 := mkCon (slices_ContainsFunc_impl_Job_impl_Job_.ok k a0.f6 (fun x1912 => impl_AllIn_1.f x1912) 59  (fun x1912 r h => impl_AllIn_1.ok x1912 r h) impl_AllIn_1.go t633 g1921) slices_ContainsFunc_impl_Job_impl_Job_.go
    cases h
    exact byRet MX Tryz.func12 1000 [.call C1910, .dec 5 true, .call C1921, .fin] (oa (sc_ C1910) (o1 c1911 (oa (sc_ C1921) on))) (by kernel_rfl)
  · replace h := (if_neg c1911).symm.trans h
    cases h
    exact byRet MX Tryz.func12 1000 [.call C1910, .dec 5 false, .fin] (oa (sc_ C1910) (o1 (eqf c1911) on)) (by kernel_rfl)

/-! ### laws_FnExactAllIn: function 4 -/
def laws_FnExactAllIn.f (k : Nat) (a0 : S35) : Option Bool := (laws_szYard.f k a0 1048576).bind fun t622 => if t622 < 0 then (some true) else ((laws_toYard.f k a0).bind fun t623 => (spec_AllIn.f k t623).bind fun t626 => (laws_toYard.f k a0).bind fun t627 => (impl_AllIn.f k t627).bind fun t634 => if (t634 == t626) = true then ((laws_toYard.f k a0).bind fun t635 => (laws_eqYard.f k t627 t635).bind fun t636 => if t636 = true then (some true) else (some false)) else (some false))
theorem laws_FnExactAllIn.go : Callable Tryz.prog 4 := ⟨_, Tryz.func4, by kernel_rfl, rfl⟩
theorem laws_FnExactAllIn.ok (k : Nat) (a0 : S35) (r : Bool) (h : laws_FnExactAllIn.f k a0 = some r) : VCalls Tryz.prog 4 [.agg (e35 a0)] [.c (.p (.sc (.bool r)))] := by
  unfold laws_FnExactAllIn.f at h
  refine VCalls.of (fn := Tryz.f4) (N := 27) Tryz.func4 rfl rfl (fun w0 => ?_)
  obtain ⟨t622, g1899, h⟩ := bindN h
  let C1899 := mkCon (laws_szYard.ok k a0 1048576 t622 g1899) laws_szYard.go
  by_cases c1900 : t622 < 0
  · replace h := (if_pos c1900).symm.trans h
    cases h
    exact byRet MX Tryz.func4 1000 [.call C1899, .b true, .fin] (oa (sc_ C1899) (o1 (decide_eq_true c1900) on)) (by kernel_rfl)
  · replace h := (if_neg c1900).symm.trans h
    obtain ⟨t623, g1901, h⟩ := bindN h
    let C1901 := mkCon (laws_toYard.ok k a0 t623 g1901) laws_toYard.go
    obtain ⟨t626, g1908, h⟩ := bindN h
    let C1908 := mkCon (spec_AllIn.ok k t623 t626 g1908) spec_AllIn.go
    obtain ⟨t627, g1909, h⟩ := bindN h
    let C1909 := mkCon (laws_toYard.ok k a0 t627 g1909) laws_toYard.go
    obtain ⟨t634, g1922, h⟩ := bindN h
    let C1922 := mkCon (impl_AllIn.ok k t627 t634 g1922) impl_AllIn.go
    by_cases c1923 : (t634 == t626) = true
    · replace h := (if_pos c1923).symm.trans h
      obtain ⟨t635, g1924, h⟩ := bindN h
      let C1924 := mkCon (laws_toYard.ok k a0 t635 g1924) laws_toYard.go
      obtain ⟨t636, g1925, h⟩ := bindN h
      let C1925 := mkCon (laws_eqYard.ok k t627 t635 t636 g1925) laws_eqYard.go
      by_cases c1926 : t636 = true
      · replace h := (if_pos c1926).symm.trans h
        cases h
        exact byRet MX Tryz.func4 1000 [.call C1899, .b false, .call C1901, .call C1908, .call C1909, .call C1922, .b false, .call C1924, .call C1925, .b false, .fin] (oa (sc_ C1899) (o1 (decide_eq_false c1900) (oa (sc_ C1901) (oa (sc_ C1908) (oa (sc_ C1909) (oa (sc_ C1922) (o1 (bnf c1923) (oa (sc_ C1924) (oa (sc_ C1925) (o1 (bnf c1926) on)))))))))) (by kernel_rfl)
      · replace h := (if_neg c1926).symm.trans h
        cases h
        exact byRet MX Tryz.func4 1000 [.call C1899, .b false, .call C1901, .call C1908, .call C1909, .call C1922, .b false, .call C1924, .call C1925, .b true, .fin] (oa (sc_ C1899) (o1 (decide_eq_false c1900) (oa (sc_ C1901) (oa (sc_ C1908) (oa (sc_ C1909) (oa (sc_ C1922) (o1 (bnf c1923) (oa (sc_ C1924) (oa (sc_ C1925) (o1 (bnt (eqf c1926)) on)))))))))) (by kernel_rfl)
    · replace h := (if_neg c1923).symm.trans h
      cases h
      exact byRet MX Tryz.func4 1000 [.call C1899, .b false, .call C1901, .call C1908, .call C1909, .call C1922, .b true, .fin] (oa (sc_ C1899) (o1 (decide_eq_false c1900) (oa (sc_ C1901) (oa (sc_ C1908) (oa (sc_ C1909) (oa (sc_ C1922) (o1 (bnt (eqf c1923)) on))))))) (by kernel_rfl)

/-! ### spec_MovesLeft: function 13 -/
def spec_MovesLeft.h1T (v660 : Int) (v655 : Int) (a0 : S48) (v661 : Int) (t656 : Bool) : List (Nat × AV) := [(1, .ptr 64 0), (3, .t (.c (.p true (.sc (.int .i64 v660))))), (4, .t (.c (.p true (.sc (.int .i64 v655))))), (5, .t (.c (.p false (R 1 (eI .i64) 0 ((rdD z65 a0.f5.f2 v655).f0))))), (6, .t (.c (.p true (.sc (.int .i64 v661))))), (13, .t (.agg [.p false (.sc (.int .i64 a0.f0.f0.f0)), .p false (.sc (.int .i64 a0.f0.f0.f1)), .p false (.sc (.string a0.f0.f0.f2)), .p false (.sc (.int .i64 a0.f0.f1)), .p false (.sc (.int .i64 a0.f0.f2)), .p false (.sc (.int .i64 a0.f0.f3)), .p false (.sc (.int .i64 a0.f0.f4)), .p false (R 4 e71 z71 a0.f1), .p false (.sc (.int .i64 a0.f2.f0)), .p false (.sc (.int .i64 a0.f2.f1)), .p false (R 1 (eI .i64) 0 a0.f2.f2), .p false (.sc (.int .i64 a0.f3)), .p false (.sc (.bool a0.f4)), .p false (.sc (.int .i64 a0.f5.f0)), .p false (.sc (.int .i64 a0.f5.f1)), .p false (R 1 e65 z65 a0.f5.f2), .p false (R 3 e69 z69 a0.f6), .p false (R 1 (eI .i64) 0 a0.f7)])), (14, .t (.c (.p true (.sc (.bool t656)))))]
def spec_MovesLeft.h1H (v660 : Int) (v655 : Int) (a0 : S48) (v661 : Int) (t656 : Bool) : List (Nat × Content) := [(64, .box 48 [.p false (.sc (.int .i64 a0.f0.f0.f0)), .p false (.sc (.int .i64 a0.f0.f0.f1)), .p false (.sc (.string a0.f0.f0.f2)), .p false (.sc (.int .i64 a0.f0.f1)), .p false (.sc (.int .i64 a0.f0.f2)), .p false (.sc (.int .i64 a0.f0.f3)), .p false (.sc (.int .i64 a0.f0.f4)), .p false (R 4 e71 z71 a0.f1), .p false (.sc (.int .i64 a0.f2.f0)), .p false (.sc (.int .i64 a0.f2.f1)), .p false (R 1 (eI .i64) 0 a0.f2.f2), .p false (.sc (.int .i64 a0.f3)), .p false (.sc (.bool a0.f4)), .p false (.sc (.int .i64 a0.f5.f0)), .p false (.sc (.int .i64 a0.f5.f1)), .p false (R 1 e65 z65 a0.f5.f2), .p false (R 3 e69 z69 a0.f6), .p false (R 1 (eI .i64) 0 a0.f7)])]
def spec_MovesLeft.x1T (y662 : Int) (v655 : Int) (a0 : S48) (t656 : Bool) : List (Nat × AV) := [(1, .ptr 64 0), (3, .t (.c (.p true (.sc (.int .i64 y662))))), (4, .t (.c (.p true (.sc (.int .i64 v655))))), (13, .t (.agg [.p false (.sc (.int .i64 a0.f0.f0.f0)), .p false (.sc (.int .i64 a0.f0.f0.f1)), .p false (.sc (.string a0.f0.f0.f2)), .p false (.sc (.int .i64 a0.f0.f1)), .p false (.sc (.int .i64 a0.f0.f2)), .p false (.sc (.int .i64 a0.f0.f3)), .p false (.sc (.int .i64 a0.f0.f4)), .p false (R 4 e71 z71 a0.f1), .p false (.sc (.int .i64 a0.f2.f0)), .p false (.sc (.int .i64 a0.f2.f1)), .p false (R 1 (eI .i64) 0 a0.f2.f2), .p false (.sc (.int .i64 a0.f3)), .p false (.sc (.bool a0.f4)), .p false (.sc (.int .i64 a0.f5.f0)), .p false (.sc (.int .i64 a0.f5.f1)), .p false (R 1 e65 z65 a0.f5.f2), .p false (R 3 e69 z69 a0.f6), .p false (R 1 (eI .i64) 0 a0.f7)])), (14, .t (.c (.p true (.sc (.bool t656)))))]
def spec_MovesLeft.x1H (y662 : Int) (v655 : Int) (a0 : S48) (t656 : Bool) : List (Nat × Content) := [(64, .box 48 [.p false (.sc (.int .i64 a0.f0.f0.f0)), .p false (.sc (.int .i64 a0.f0.f0.f1)), .p false (.sc (.string a0.f0.f0.f2)), .p false (.sc (.int .i64 a0.f0.f1)), .p false (.sc (.int .i64 a0.f0.f2)), .p false (.sc (.int .i64 a0.f0.f3)), .p false (.sc (.int .i64 a0.f0.f4)), .p false (R 4 e71 z71 a0.f1), .p false (.sc (.int .i64 a0.f2.f0)), .p false (.sc (.int .i64 a0.f2.f1)), .p false (R 1 (eI .i64) 0 a0.f2.f2), .p false (.sc (.int .i64 a0.f3)), .p false (.sc (.bool a0.f4)), .p false (.sc (.int .i64 a0.f5.f0)), .p false (.sc (.int .i64 a0.f5.f1)), .p false (R 1 e65 z65 a0.f5.f2), .p false (R 3 e69 z69 a0.f6), .p false (R 1 (eI .i64) 0 a0.f7)])]
def spec_MovesLeft.l1 : Nat → S48 → Int → Int → Int → Option Int
  | 0, _, _, _, _ => none
  | kq + 1, a0, v655, v660, v661 => if v661 < (((rdD z65 a0.f5.f2 v655).f0).length : Int) then (if 0 ≤ v661 then (if 0 ≤ (w64 (v661 - 1)) then (if (w64 (v661 - 1)) < (((rdD z65 a0.f5.f2 v655).f0).length : Int) then (if (rdD 0 ((rdD z65 a0.f5.f2 v655).f0) v661) = (rdD 0 ((rdD z65 a0.f5.f2 v655).f0) (w64 (v661 - 1))) then (spec_MovesLeft.l1 kq a0 v655 v660 (w64 (v661 + 1))) else (spec_MovesLeft.l1 kq a0 v655 (w64 (v660 + 1)) (w64 (v661 + 1)))) else none) else none) else none) else (some v660)
def spec_MovesLeft.h0T (v654 : Int) (v655 : Int) (a0 : S48) : List (Nat × AV) := [(1, .ptr 64 0), (3, .t (.c (.p true (.sc (.int .i64 v654))))), (4, .t (.c (.p true (.sc (.int .i64 v655)))))]
def spec_MovesLeft.h0H (v654 : Int) (v655 : Int) (a0 : S48) : List (Nat × Content) := [(64, .box 48 [.p false (.sc (.int .i64 a0.f0.f0.f0)), .p false (.sc (.int .i64 a0.f0.f0.f1)), .p false (.sc (.string a0.f0.f0.f2)), .p false (.sc (.int .i64 a0.f0.f1)), .p false (.sc (.int .i64 a0.f0.f2)), .p false (.sc (.int .i64 a0.f0.f3)), .p false (.sc (.int .i64 a0.f0.f4)), .p false (R 4 e71 z71 a0.f1), .p false (.sc (.int .i64 a0.f2.f0)), .p false (.sc (.int .i64 a0.f2.f1)), .p false (R 1 (eI .i64) 0 a0.f2.f2), .p false (.sc (.int .i64 a0.f3)), .p false (.sc (.bool a0.f4)), .p false (.sc (.int .i64 a0.f5.f0)), .p false (.sc (.int .i64 a0.f5.f1)), .p false (R 1 e65 z65 a0.f5.f2), .p false (R 3 e69 z69 a0.f6), .p false (R 1 (eI .i64) 0 a0.f7)])]
def spec_MovesLeft.l0 : Nat → S48 → Int → Int → Option Int
  | 0, _, _, _ => none
  | kq + 1, a0, v654, v655 => if v655 < (a0.f6.length : Int) then ((spec_YardOk.f kq a0).bind fun t656 => if t656 = true then (if 0 ≤ v655 then (if v655 < (a0.f5.f2.length : Int) then ((spec_MovesLeft.l1 kq a0 v655 v654 (w64 ((rdD z69 a0.f6 v655).f1 + 1))).bind fun y662 => (spec_MovesLeft.l0 kq a0 y662 (w64 (v655 + 1)))) else none) else none) else (some v654)) else (some v654)
def spec_MovesLeft.f (k : Nat) (a0 : S48) : Option Int := spec_MovesLeft.l0 k a0 0 0
theorem spec_MovesLeft.go : Callable Tryz.prog 13 := ⟨_, Tryz.func13, by kernel_rfl, rfl⟩
theorem spec_MovesLeft.ok (k : Nat) (a0 : S48) (r : Int) (h : spec_MovesLeft.f k a0 = some r) : VCalls Tryz.prog 13 [.agg (e48 a0)] [.c (.p (.sc (.int .i64 r)))] := by
  unfold spec_MovesLeft.f at h
  refine VCalls.of (fn := Tryz.f13) (N := 51) Tryz.func13 rfl rfl (fun w0 => ?_)
  have H0 : ∀ (kq : Nat) (v654 : Int) (v655 : Int), spec_MovesLeft.l0 kq a0 v654 v655 = some r → AG Tryz.prog 13 51 [.c (.p (.sc (.int .i64 r)))] w0 (headStk (codeOf Tryz.f13) 0) (mkFS (spec_MovesLeft.h0T v654 v655 a0) (spec_MovesLeft.h0H v654 v655 a0)) := by
    intro kq
    induction kq with
    | zero => intro v654 v655 h; cases h
    | succ kq ih =>
      intro v654 v655 h
      rw [spec_MovesLeft.l0] at h
      by_cases c1978 : v655 < (a0.f6.length : Int)
      · replace h := (if_pos c1978).symm.trans h
        obtain ⟨t656, g1979, h⟩ := bindN h
        let C1979 := mkCon (spec_YardOk.ok kq a0 t656 g1979) spec_YardOk.go
        by_cases c1980 : t656 = true
        · replace h := (if_pos c1980).symm.trans h
          obtain ⟨c1981, h⟩ := ifN h
          obtain ⟨c1982, h⟩ := ifN h
          have H1 : ∀ (kq : Nat) (v660 : Int) (v661 : Int) (x : Int), spec_MovesLeft.l1 kq a0 v655 v660 v661 = some x → AG Tryz.prog 13 51 [.c (.p (.sc (.int .i64 r)))] w0 (exitStk (codeOf Tryz.f13) 1) (mkFS (spec_MovesLeft.x1T x v655 a0 t656) (spec_MovesLeft.x1H x v655 a0 t656)) → AG Tryz.prog 13 51 [.c (.p (.sc (.int .i64 r)))] w0 (headStk (codeOf Tryz.f13) 1) (mkFS (spec_MovesLeft.h1T v660 v655 a0 v661 t656) (spec_MovesLeft.h1H v660 v655 a0 v661 t656)) := by
            intro kq
            induction kq with
            | zero => intro v660 v661 x h hx; cases h
            | succ kq ih =>
              intro v660 v661 x h hx
              rw [spec_MovesLeft.l1] at h
              by_cases c1998 : v661 < (((rdD z65 a0.f5.f2 v655).f0).length : Int)
              · replace h := (if_pos c1998).symm.trans h
                obtain ⟨c1999, h⟩ := ifN h
                obtain ⟨c2000, h⟩ := ifN h
                obtain ⟨c2001, h⟩ := ifN h
                by_cases c2002 : (rdD 0 ((rdD z65 a0.f5.f2 v655).f0) v661) = (rdD 0 ((rdD z65 a0.f5.f2 v655).f0) (w64 (v661 - 1)))
                · replace h := (if_pos c2002).symm.trans h
                  exact byHead MX Tryz.func13 1000 [.b true, .b false, .fin] (o1 (decide_eq_true c1998) (o1 c1999 (o1 c1998 (o1 c2000 (o1 c2001 (o1 (bnf (decide_eq_true c2002)) on)))))) (ih v660 (w64 (v661 + 1)) _ h hx) (by kernel_rfl)
                · replace h := (if_neg c2002).symm.trans h
                  exact byHead MX Tryz.func13 1000 [.b true, .b true, .fin] (o1 (decide_eq_true c1998) (o1 c1999 (o1 c1998 (o1 c2000 (o1 c2001 (o1 (bnt (decide_eq_false c2002)) on)))))) (ih (w64 (v660 + 1)) (w64 (v661 + 1)) _ h hx) (by kernel_rfl)
              · replace h := (if_neg c1998).symm.trans h
                cases h
                exact byStop MX Tryz.func13 1000 [.b false, .fin] (o1 (decide_eq_false c1998) on) hx (by kernel_rfl)
          obtain ⟨y662, g2003, h⟩ := bindN h
          refine byHead MX Tryz.func13 1000 [.dec 12 true, .call C1979, .b true, .fin] (o1 (decide_eq_true c1978) (oa (sc_ C1979) (o1 c1980 (o1 c1981 (o1 c1982 (o1 c1981 (o1 c1978 on))))))) (H1 kq v654 (w64 ((rdD z69 a0.f6 v655).f1 + 1)) _ g2003 ?_) (by kernel_rfl)
          exact byHead MX Tryz.func13 1000 [.fin] on (ih y662 (w64 (v655 + 1)) h) (by kernel_rfl)
        · replace h := (if_neg c1980).symm.trans h
          cases h
          exact byRet MX Tryz.func13 1000 [.dec 12 true, .call C1979, .b false, .fin, .fin] (o1 (decide_eq_true c1978) (oa (sc_ C1979) (o1 (eqf c1980) on))) (by kernel_rfl)
      · replace h := (if_neg c1978).symm.trans h
        cases h
        exact byRet MX Tryz.func13 1000 [.dec 12 false, .b false, .fin, .fin] (o1 (decide_eq_false c1978) (o1 (rfl : false = false) on)) (by kernel_rfl)
  exact byHead MX Tryz.func13 1000 [.fin] on (H0 k 0 0 h) (by kernel_rfl)

/-! ### impl_MovesLeft: function 14 -/
def impl_MovesLeft.h0T (v670 : Int) (a0 : S48) (v669 : Int) : List (Nat × AV) := [(1, .ptr 64 0), (3, .t (.c (.p true (.sc (.int .i64 v670))))), (10, .t (.c (.p false (R 3 e69 z69 a0.f6)))), (11, .t (.c (.p true (.sc (.int .i64 (a0.f6.length : Int)))))), (12, .t (.c (.p true (.sc (.int .i64 v669)))))]
def impl_MovesLeft.h0H (v670 : Int) (a0 : S48) (v669 : Int) : List (Nat × Content) := [(64, .box 48 [.p false (.sc (.int .i64 a0.f0.f0.f0)), .p false (.sc (.int .i64 a0.f0.f0.f1)), .p false (.sc (.string a0.f0.f0.f2)), .p false (.sc (.int .i64 a0.f0.f1)), .p false (.sc (.int .i64 a0.f0.f2)), .p false (.sc (.int .i64 a0.f0.f3)), .p false (.sc (.int .i64 a0.f0.f4)), .p false (R 4 e71 z71 a0.f1), .p false (.sc (.int .i64 a0.f2.f0)), .p false (.sc (.int .i64 a0.f2.f1)), .p false (R 1 (eI .i64) 0 a0.f2.f2), .p false (.sc (.int .i64 a0.f3)), .p false (.sc (.bool a0.f4)), .p false (.sc (.int .i64 a0.f5.f0)), .p false (.sc (.int .i64 a0.f5.f1)), .p false (R 1 e65 z65 a0.f5.f2), .p false (R 3 e69 z69 a0.f6), .p false (R 1 (eI .i64) 0 a0.f7)])]
def impl_MovesLeft.l0 : Nat → S48 → Int → Int → Option Int
  | 0, _, _, _ => none
  | kq + 1, a0, v669, v670 => if v669 < (a0.f6.length : Int) then (if 0 ≤ v669 then (if v669 < (a0.f5.f2.length : Int) then ((impl_movesAfter.f kq (rdD z65 a0.f5.f2 v669) ((rdD z69 a0.f6 v669).f1)).bind fun t671 => impl_MovesLeft.l0 kq a0 (w64 (v669 + 1)) (w64 (v670 + t671))) else none) else none) else (some v670)
def impl_MovesLeft.f (k : Nat) (a0 : S48) : Option Int := (impl_YardOk.f k a0).bind fun t665 => if t665 = true then (impl_MovesLeft.l0 k a0 0 0) else (some 0)
theorem impl_MovesLeft.go : Callable Tryz.prog 14 := ⟨_, Tryz.func14, by kernel_rfl, rfl⟩
theorem impl_MovesLeft.ok (k : Nat) (a0 : S48) (r : Int) (h : impl_MovesLeft.f k a0 = some r) : VCalls Tryz.prog 14 [.agg (e48 a0)] [.c (.p (.sc (.int .i64 r)))] := by
  unfold impl_MovesLeft.f at h
  refine VCalls.of (fn := Tryz.f14) (N := 30) Tryz.func14 rfl rfl (fun w0 => ?_)
  obtain ⟨t665, g2006, h⟩ := bindN h
  let C2006 := mkCon (impl_YardOk.ok k a0 t665 g2006) impl_YardOk.go
  by_cases c2007 : t665 = true
  · replace h := (if_pos c2007).symm.trans h
    have H0 : ∀ (kq : Nat) (v669 : Int) (v670 : Int), impl_MovesLeft.l0 kq a0 v669 v670 = some r → AG Tryz.prog 14 30 [.c (.p (.sc (.int .i64 r)))] w0 (headStk (codeOf Tryz.f14) 0) (mkFS (impl_MovesLeft.h0T v670 a0 v669) (impl_MovesLeft.h0H v670 a0 v669)) := by
      intro kq
      induction kq with
      | zero => intro v669 v670 h; cases h
      | succ kq ih =>
        intro v669 v670 h
        rw [impl_MovesLeft.l0] at h
        by_cases c2014 : v669 < (a0.f6.length : Int)
        · replace h := (if_pos c2014).symm.trans h
          obtain ⟨c2015, h⟩ := ifN h
          obtain ⟨c2016, h⟩ := ifN h
          obtain ⟨t671, g2017, h⟩ := bindN h
          let C2017 := mkCon (impl_movesAfter.ok kq (rdD z65 a0.f5.f2 v669) ((rdD z69 a0.f6 v669).f1) t671 g2017) impl_movesAfter.go
          exact byHead MX Tryz.func14 1000 [.b true, .call C2017, .fin] (o1 (decide_eq_true c2014) (o1 c2015 (o1 c2014 (o1 c2015 (o1 c2016 (oa (sc_ C2017) on)))))) (ih (w64 (v669 + 1)) (w64 (v670 + t671)) h) (by kernel_rfl)
        · replace h := (if_neg c2014).symm.trans h
          cases h
          exact byRet MX Tryz.func14 1000 [.b false, .fin, .fin] (o1 (decide_eq_false c2014) on) (by kernel_rfl)
    exact byHead MX Tryz.func14 1000 [.call C2006, .b false, .fin] (oa (sc_ C2006) (o1 (bnf c2007) on)) (H0 k 0 0 h) (by kernel_rfl)
  · replace h := (if_neg c2007).symm.trans h
    cases h
    exact byRet MX Tryz.func14 1000 [.call C2006, .b true, .fin] (oa (sc_ C2006) (o1 (bnt (eqf c2007)) on)) (by kernel_rfl)

/-! ### laws_FnExactMovesLeft: function 5 -/
def laws_FnExactMovesLeft.f (k : Nat) (a0 : S35) : Option Bool := (laws_szYard.f k a0 1048576).bind fun t637 => if t637 < 0 then (some true) else ((laws_toYard.f k a0).bind fun t638 => (spec_MovesLeft.f k t638).bind fun t663 => (laws_toYard.f k a0).bind fun t664 => (impl_MovesLeft.f k t664).bind fun t672 => if t672 = t663 then ((laws_toYard.f k a0).bind fun t673 => (laws_eqYard.f k t664 t673).bind fun t674 => if t674 = true then (some true) else (some false)) else (some false))
theorem laws_FnExactMovesLeft.go : Callable Tryz.prog 5 := ⟨_, Tryz.func5, by kernel_rfl, rfl⟩
theorem laws_FnExactMovesLeft.ok (k : Nat) (a0 : S35) (r : Bool) (h : laws_FnExactMovesLeft.f k a0 = some r) : VCalls Tryz.prog 5 [.agg (e35 a0)] [.c (.p (.sc (.bool r)))] := by
  unfold laws_FnExactMovesLeft.f at h
  refine VCalls.of (fn := Tryz.f5) (N := 27) Tryz.func5 rfl rfl (fun w0 => ?_)
  obtain ⟨t637, g1927, h⟩ := bindN h
  let C1927 := mkCon (laws_szYard.ok k a0 1048576 t637 g1927) laws_szYard.go
  by_cases c1928 : t637 < 0
  · replace h := (if_pos c1928).symm.trans h
    cases h
    exact byRet MX Tryz.func5 1000 [.call C1927, .b true, .fin] (oa (sc_ C1927) (o1 (decide_eq_true c1928) on)) (by kernel_rfl)
  · replace h := (if_neg c1928).symm.trans h
    obtain ⟨t638, g1929, h⟩ := bindN h
    let C1929 := mkCon (laws_toYard.ok k a0 t638 g1929) laws_toYard.go
    obtain ⟨t663, g2004, h⟩ := bindN h
    let C2004 := mkCon (spec_MovesLeft.ok k t638 t663 g2004) spec_MovesLeft.go
    obtain ⟨t664, g2005, h⟩ := bindN h
    let C2005 := mkCon (laws_toYard.ok k a0 t664 g2005) laws_toYard.go
    obtain ⟨t672, g2018, h⟩ := bindN h
    let C2018 := mkCon (impl_MovesLeft.ok k t664 t672 g2018) impl_MovesLeft.go
    by_cases c2019 : t672 = t663
    · replace h := (if_pos c2019).symm.trans h
      obtain ⟨t673, g2020, h⟩ := bindN h
      let C2020 := mkCon (laws_toYard.ok k a0 t673 g2020) laws_toYard.go
      obtain ⟨t674, g2021, h⟩ := bindN h
      let C2021 := mkCon (laws_eqYard.ok k t664 t673 t674 g2021) laws_eqYard.go
      by_cases c2022 : t674 = true
      · replace h := (if_pos c2022).symm.trans h
        cases h
        exact byRet MX Tryz.func5 1000 [.call C1927, .b false, .call C1929, .call C2004, .call C2005, .call C2018, .b false, .call C2020, .call C2021, .b false, .fin] (oa (sc_ C1927) (o1 (decide_eq_false c1928) (oa (sc_ C1929) (oa (sc_ C2004) (oa (sc_ C2005) (oa (sc_ C2018) (o1 (bnf (decide_eq_true c2019)) (oa (sc_ C2020) (oa (sc_ C2021) (o1 (bnf c2022) on)))))))))) (by kernel_rfl)
      · replace h := (if_neg c2022).symm.trans h
        cases h
        exact byRet MX Tryz.func5 1000 [.call C1927, .b false, .call C1929, .call C2004, .call C2005, .call C2018, .b false, .call C2020, .call C2021, .b true, .fin] (oa (sc_ C1927) (o1 (decide_eq_false c1928) (oa (sc_ C1929) (oa (sc_ C2004) (oa (sc_ C2005) (oa (sc_ C2018) (o1 (bnf (decide_eq_true c2019)) (oa (sc_ C2020) (oa (sc_ C2021) (o1 (bnt (eqf c2022)) on)))))))))) (by kernel_rfl)
    · replace h := (if_neg c2019).symm.trans h
      cases h
      exact byRet MX Tryz.func5 1000 [.call C1927, .b false, .call C1929, .call C2004, .call C2005, .call C2018, .b true, .fin] (oa (sc_ C1927) (o1 (decide_eq_false c1928) (oa (sc_ C1929) (oa (sc_ C2004) (oa (sc_ C2005) (oa (sc_ C2018) (o1 (bnt (decide_eq_false c2019)) on))))))) (by kernel_rfl)
end Go.Proofs.YtnnppdjmhellcaaGreat.V
