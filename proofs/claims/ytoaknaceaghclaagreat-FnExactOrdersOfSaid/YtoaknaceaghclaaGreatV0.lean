/- What each Go function computes, and that the machine does so: printed by a program of this session (avgen.py). -/
import Derived.Test.YtoaknaceaghclaaGreatVT
namespace Go.Proofs.YtoaknaceaghclaaGreat.V
open Go Go.Av Go.Proofs
set_option linter.unusedVariables false
set_option maxRecDepth 100000
/-! ### laws_szGrid: function 74 -/
def laws_szGrid.f (a0 : S23) (a1 : Int) : Option Int := if (w64 (a1 - (a0.f2.size : Int))) < 0 then (some (-1)) else (some (w64 (a1 - (a0.f2.size : Int))))
theorem laws_szGrid.go : Callable Tryz.prog 74 := ⟨_, Tryz.func74, by kernel_rfl, rfl⟩
theorem laws_szGrid.ok (a0 : S23) (a1 : Int) (r : Int) (h : laws_szGrid.f a0 a1 = some r) : VCalls Tryz.prog 74 [.agg (e23 a0), .c (.sc (.int .i64 a1))] [.c (.p (.sc (.int .i64 r)))] := by
  unfold laws_szGrid.f at h
  refine VCalls.of (fn := Tryz.f74) (N := 13) Tryz.func74 rfl rfl (fun w0 => ?_)
  by_cases c1 : (w64 (a1 - (a0.f2.size : Int))) < 0
  · replace h := (if_pos c1).symm.trans h
    cases h
    exact byRet MX Tryz.func74 1000 [.b true, .fin] (o1 (decide_eq_true c1) on) (by kernel_rfl)
  · replace h := (if_neg c1).symm.trans h
    cases h
    exact byRet MX Tryz.func74 1000 [.b false, .fin] (o1 (decide_eq_false c1) on) (by kernel_rfl)

/-! ### laws_szSetup: function 26 -/
def laws_szSetup.f (a0 : S25) (a1 : Int) : Option Int := (laws_szGrid.f a0.f0 a1).bind fun t1 => if t1 < 0 then (some (-1)) else (some t1)
theorem laws_szSetup.go : Callable Tryz.prog 26 := ⟨_, Tryz.func26, by kernel_rfl, rfl⟩
theorem laws_szSetup.ok (a0 : S25) (a1 : Int) (r : Int) (h : laws_szSetup.f a0 a1 = some r) : VCalls Tryz.prog 26 [.agg (e25 a0), .c (.sc (.int .i64 a1))] [.c (.p (.sc (.int .i64 r)))] := by
  unfold laws_szSetup.f at h
  refine VCalls.of (fn := Tryz.f26) (N := 12) Tryz.func26 rfl rfl (fun w0 => ?_)
  obtain ⟨t1, g2, h⟩ := bindN h
  let C2 := mkCon (laws_szGrid.ok a0.f0 a1 t1 g2) laws_szGrid.go
  by_cases c3 : t1 < 0
  · replace h := (if_pos c3).symm.trans h
    cases h
    exact byRet MX Tryz.func26 1000 [.call C2, .b true, .fin] (oa (sc_ C2) (o1 (decide_eq_true c3) on)) (by kernel_rfl)
  · replace h := (if_neg c3).symm.trans h
    cases h
    exact byRet MX Tryz.func26 1000 [.call C2, .b false, .fin] (oa (sc_ C2) (o1 (decide_eq_false c3) on)) (by kernel_rfl)

/-! ### laws_szRobotS: function 27 -/
def laws_szRobotS.f (a0 : List S113) (a1 : Int) : Option Int := if (w64 (a1 - (a0.length : Int))) < 0 then (some (-1)) else (some (w64 (a1 - (a0.length : Int))))
theorem laws_szRobotS.go : Callable Tryz.prog 27 := ⟨_, Tryz.func27, by kernel_rfl, rfl⟩
theorem laws_szRobotS.ok (a0 : List S113) (a1 : Int) (r : Int) (h : laws_szRobotS.f a0 a1 = some r) : VCalls Tryz.prog 27 [.c (R 4 e113 z113 a0), .c (.sc (.int .i64 a1))] [.c (.p (.sc (.int .i64 r)))] := by
  unfold laws_szRobotS.f at h
  refine VCalls.of (fn := Tryz.f27) (N := 12) Tryz.func27 rfl rfl (fun w0 => ?_)
  by_cases c6 : (w64 (a1 - (a0.length : Int))) < 0
  · replace h := (if_pos c6).symm.trans h
    cases h
    exact byRet MX Tryz.func27 1000 [.b true, .fin] (o1 (decide_eq_true c6) on) (by kernel_rfl)
  · replace h := (if_neg c6).symm.trans h
    cases h
    exact byRet MX Tryz.func27 1000 [.b false, .fin] (o1 (decide_eq_false c6) on) (by kernel_rfl)

/-! ### laws_szIntS: function 31 -/
def laws_szIntS.f (a0 : List Int) (a1 : Int) : Option Int := if (w64 (a1 - (a0.length : Int))) < 0 then (some (-1)) else (some (w64 (a1 - (a0.length : Int))))
theorem laws_szIntS.go : Callable Tryz.prog 31 := ⟨_, Tryz.func31, by kernel_rfl, rfl⟩
theorem laws_szIntS.ok (a0 : List Int) (a1 : Int) (r : Int) (h : laws_szIntS.f a0 a1 = some r) : VCalls Tryz.prog 31 [.c (R 1 (eI .i64) 0 a0), .c (.sc (.int .i64 a1))] [.c (.p (.sc (.int .i64 r)))] := by
  unfold laws_szIntS.f at h
  refine VCalls.of (fn := Tryz.f31) (N := 12) Tryz.func31 rfl rfl (fun w0 => ?_)
  by_cases c9 : (w64 (a1 - (a0.length : Int))) < 0
  · replace h := (if_pos c9).symm.trans h
    cases h
    exact byRet MX Tryz.func31 1000 [.b true, .fin] (o1 (decide_eq_true c9) on) (by kernel_rfl)
  · replace h := (if_neg c9).symm.trans h
    cases h
    exact byRet MX Tryz.func31 1000 [.b false, .fin] (o1 (decide_eq_false c9) on) (by kernel_rfl)

/-! ### laws_szWindow: function 28 -/
def laws_szWindow.f (a0 : S29) (a1 : Int) : Option Int := (laws_szIntS.f a0.f2 a1).bind fun t4 => if t4 < 0 then (some (-1)) else (some t4)
theorem laws_szWindow.go : Callable Tryz.prog 28 := ⟨_, Tryz.func28, by kernel_rfl, rfl⟩
theorem laws_szWindow.ok (a0 : S29) (a1 : Int) (r : Int) (h : laws_szWindow.f a0 a1 = some r) : VCalls Tryz.prog 28 [.agg (e29 a0), .c (.sc (.int .i64 a1))] [.c (.p (.sc (.int .i64 r)))] := by
  unfold laws_szWindow.f at h
  refine VCalls.of (fn := Tryz.f28) (N := 12) Tryz.func28 rfl rfl (fun w0 => ?_)
  obtain ⟨t4, g10, h⟩ := bindN h
  let C10 := mkCon (laws_szIntS.ok a0.f2 a1 t4 g10) laws_szIntS.go
  by_cases c11 : t4 < 0
  · replace h := (if_pos c11).symm.trans h
    cases h
    exact byRet MX Tryz.func28 1000 [.call C10, .b true, .fin] (oa (sc_ C10) (o1 (decide_eq_true c11) on)) (by kernel_rfl)
  · replace h := (if_neg c11).symm.trans h
    cases h
    exact byRet MX Tryz.func28 1000 [.call C10, .b false, .fin] (oa (sc_ C10) (o1 (decide_eq_false c11) on)) (by kernel_rfl)

/-! ### laws_szWay: function 144 -/
def laws_szWay.f (a0 : S147) (a1 : Int) : Option Int := (laws_szIntS.f a0.f0 a1).bind fun t6 => if t6 < 0 then (some (-1)) else (some t6)
theorem laws_szWay.go : Callable Tryz.prog 144 := ⟨_, Tryz.func144, by kernel_rfl, rfl⟩
theorem laws_szWay.ok (a0 : S147) (a1 : Int) (r : Int) (h : laws_szWay.f a0 a1 = some r) : VCalls Tryz.prog 144 [.agg (e147 a0), .c (.sc (.int .i64 a1))] [.c (.p (.sc (.int .i64 r)))] := by
  unfold laws_szWay.f at h
  refine VCalls.of (fn := Tryz.f144) (N := 12) Tryz.func144 rfl rfl (fun w0 => ?_)
  obtain ⟨t6, g16, h⟩ := bindN h
  let C16 := mkCon (laws_szIntS.ok a0.f0 a1 t6 g16) laws_szIntS.go
  by_cases c17 : t6 < 0
  · replace h := (if_pos c17).symm.trans h
    cases h
    exact byRet MX Tryz.func144 1000 [.call C16, .b true, .fin] (oa (sc_ C16) (o1 (decide_eq_true c17) on)) (by kernel_rfl)
  · replace h := (if_neg c17).symm.trans h
    cases h
    exact byRet MX Tryz.func144 1000 [.call C16, .b false, .fin] (oa (sc_ C16) (o1 (decide_eq_false c17) on)) (by kernel_rfl)

/-! ### laws_szWayS: function 75 -/
def laws_szWayS.h0T (a0 : List S147) (v10 : Int) (v11 : Int) : List (Nat × AV) := [(0, .t (.c (.p false (R 1 e147 z147 a0)))), (1, .t (.c (.p true (.sc (.int .i64 v10))))), (5, .t (.c (.p true (.sc (.int .i64 v11)))))]
def laws_szWayS.h0H (a0 : List S147) (v10 : Int) (v11 : Int) : List (Nat × Content) := []
def laws_szWayS.l0 : Nat → List S147 → Int → Int → Option Int
  | 0, _, _, _ => none
  | kq + 1, a0, v10, v11 => if v11 < (a0.length : Int) then (if 0 ≤ v11 then ((laws_szWay.f (rdD z147 a0 v11) v10).bind fun t12 => if t12 < 0 then (some (-1)) else (laws_szWayS.l0 kq a0 t12 (w64 (v11 + 1)))) else none) else (some v10)
def laws_szWayS.f (k : Nat) (a0 : List S147) (a1 : Int) : Option Int := if (w64 (a1 - (a0.length : Int))) < 0 then (some (-1)) else (laws_szWayS.l0 k a0 (w64 (a1 - (a0.length : Int))) 0)
theorem laws_szWayS.go : Callable Tryz.prog 75 := ⟨_, Tryz.func75, by kernel_rfl, rfl⟩
theorem laws_szWayS.ok (k : Nat) (a0 : List S147) (a1 : Int) (r : Int) (h : laws_szWayS.f k a0 a1 = some r) : VCalls Tryz.prog 75 [.c (R 1 e147 z147 a0), .c (.sc (.int .i64 a1))] [.c (.p (.sc (.int .i64 r)))] := by
  unfold laws_szWayS.f at h
  refine VCalls.of (fn := Tryz.f75) (N := 27) Tryz.func75 rfl rfl (fun w0 => ?_)
  by_cases c14 : (w64 (a1 - (a0.length : Int))) < 0
  · replace h := (if_pos c14).symm.trans h
    cases h
    exact byRet MX Tryz.func75 1000 [.b true, .fin] (o1 (decide_eq_true c14) on) (by kernel_rfl)
  · replace h := (if_neg c14).symm.trans h
    have H0 : ∀ (kq : Nat) (v10 : Int) (v11 : Int), laws_szWayS.l0 kq a0 v10 v11 = some r → AG Tryz.prog 75 27 [.c (.p (.sc (.int .i64 r)))] w0 (headStk (codeOf Tryz.f75) 0) (mkFS (laws_szWayS.h0T a0 v10 v11) (laws_szWayS.h0H a0 v10 v11)) := by
      intro kq
      induction kq with
      | zero => intro v10 v11 h; cases h
      | succ kq ih =>
        intro v10 v11 h
        rw [laws_szWayS.l0] at h
        by_cases c23 : v11 < (a0.length : Int)
        · replace h := (if_pos c23).symm.trans h
          obtain ⟨c24, h⟩ := ifN h
          obtain ⟨t12, g25, h⟩ := bindN h
          let C25 := mkCon (laws_szWay.ok (rdD z147 a0 v11) v10 t12 g25) laws_szWay.go
          by_cases c26 : t12 < 0
          · replace h := (if_pos c26).symm.trans h
            cases h
            exact byRet MX Tryz.func75 1000 [.b true, .call C25, .b true, .fin] (o1 (decide_eq_true c23) (o1 c24 (o1 c23 (oa (sc_ C25) (o1 (decide_eq_true c26) on))))) (by kernel_rfl)
          · replace h := (if_neg c26).symm.trans h
            exact byHead MX Tryz.func75 1000 [.b true, .call C25, .b false, .fin] (o1 (decide_eq_true c23) (o1 c24 (o1 c23 (oa (sc_ C25) (o1 (decide_eq_false c26) on))))) (ih t12 (w64 (v11 + 1)) h) (by kernel_rfl)
        · replace h := (if_neg c23).symm.trans h
          cases h
          exact byRet MX Tryz.func75 1000 [.b false, .fin, .fin] (o1 (decide_eq_false c23) on) (by kernel_rfl)
    exact byHead MX Tryz.func75 1000 [.b false, .fin] (o1 (decide_eq_false c14) on) (H0 k (w64 (a1 - (a0.length : Int))) 0 h) (by kernel_rfl)

/-! ### laws_szPlan: function 29 -/
def laws_szPlan.f (k : Nat) (a0 : S32) (a1 : Int) : Option Int := (laws_szWayS.f k a0.f2 a1).bind fun t13 => if t13 < 0 then (some (-1)) else (some t13)
theorem laws_szPlan.go : Callable Tryz.prog 29 := ⟨_, Tryz.func29, by kernel_rfl, rfl⟩
theorem laws_szPlan.ok (k : Nat) (a0 : S32) (a1 : Int) (r : Int) (h : laws_szPlan.f k a0 a1 = some r) : VCalls Tryz.prog 29 [.agg (e32 a0), .c (.sc (.int .i64 a1))] [.c (.p (.sc (.int .i64 r)))] := by
  unfold laws_szPlan.f at h
  refine VCalls.of (fn := Tryz.f29) (N := 12) Tryz.func29 rfl rfl (fun w0 => ?_)
  obtain ⟨t13, g27, h⟩ := bindN h
  let C27 := mkCon (laws_szWayS.ok k a0.f2 a1 t13 g27) laws_szWayS.go
  by_cases c28 : t13 < 0
  · replace h := (if_pos c28).symm.trans h
    cases h
    exact byRet MX Tryz.func29 1000 [.call C27, .b true, .fin] (oa (sc_ C27) (o1 (decide_eq_true c28) on)) (by kernel_rfl)
  · replace h := (if_neg c28).symm.trans h
    cases h
    exact byRet MX Tryz.func29 1000 [.call C27, .b false, .fin] (oa (sc_ C27) (o1 (decide_eq_false c28) on)) (by kernel_rfl)

/-! ### laws_szJobS: function 30 -/
def laws_szJobS.f (a0 : List S116) (a1 : Int) : Option Int := if (w64 (a1 - (a0.length : Int))) < 0 then (some (-1)) else (some (w64 (a1 - (a0.length : Int))))
theorem laws_szJobS.go : Callable Tryz.prog 30 := ⟨_, Tryz.func30, by kernel_rfl, rfl⟩
theorem laws_szJobS.ok (a0 : List S116) (a1 : Int) (r : Int) (h : laws_szJobS.f a0 a1 = some r) : VCalls Tryz.prog 30 [.c (R 3 e116 z116 a0), .c (.sc (.int .i64 a1))] [.c (.p (.sc (.int .i64 r)))] := by
  unfold laws_szJobS.f at h
  refine VCalls.of (fn := Tryz.f30) (N := 12) Tryz.func30 rfl rfl (fun w0 => ?_)
  by_cases c31 : (w64 (a1 - (a0.length : Int))) < 0
  · replace h := (if_pos c31).symm.trans h
    cases h
    exact byRet MX Tryz.func30 1000 [.b true, .fin] (o1 (decide_eq_true c31) on) (by kernel_rfl)
  · replace h := (if_neg c31).symm.trans h
    cases h
    exact byRet MX Tryz.func30 1000 [.b false, .fin] (o1 (decide_eq_false c31) on) (by kernel_rfl)

/-! ### laws_szYard: function 7 -/
def laws_szYard.f (k : Nat) (a0 : S35) (a1 : Int) : Option Int := (laws_szSetup.f a0.f0 a1).bind fun t2 => if t2 < 0 then (some (-1)) else ((laws_szRobotS.f a0.f1 t2).bind fun t3 => if t3 < 0 then (some (-1)) else ((laws_szWindow.f a0.f2 t3).bind fun t5 => if t5 < 0 then (some (-1)) else ((laws_szPlan.f k a0.f5 t5).bind fun t14 => if t14 < 0 then (some (-1)) else ((laws_szJobS.f a0.f6 t14).bind fun t15 => if t15 < 0 then (some (-1)) else ((laws_szIntS.f a0.f7 t15).bind fun t16 => if t16 < 0 then (some (-1)) else (some t16))))))
theorem laws_szYard.go : Callable Tryz.prog 7 := ⟨_, Tryz.func7, by kernel_rfl, rfl⟩
theorem laws_szYard.ok (k : Nat) (a0 : S35) (a1 : Int) (r : Int) (h : laws_szYard.f k a0 a1 = some r) : VCalls Tryz.prog 7 [.agg (e35 a0), .c (.sc (.int .i64 a1))] [.c (.p (.sc (.int .i64 r)))] := by
  unfold laws_szYard.f at h
  refine VCalls.of (fn := Tryz.f7) (N := 42) Tryz.func7 rfl rfl (fun w0 => ?_)
  obtain ⟨t2, g4, h⟩ := bindN h
  let C4 := mkCon (laws_szSetup.ok a0.f0 a1 t2 g4) laws_szSetup.go
  by_cases c5 : t2 < 0
  · replace h := (if_pos c5).symm.trans h
    cases h
    exact byRet MX Tryz.func7 1000 [.call C4, .b true, .fin] (oa (sc_ C4) (o1 (decide_eq_true c5) on)) (by kernel_rfl)
  · replace h := (if_neg c5).symm.trans h
    obtain ⟨t3, g7, h⟩ := bindN h
    let C7 := mkCon (laws_szRobotS.ok a0.f1 t2 t3 g7) laws_szRobotS.go
    by_cases c8 : t3 < 0
    · replace h := (if_pos c8).symm.trans h
      cases h
      exact byRet MX Tryz.func7 1000 [.call C4, .b false, .call C7, .b true, .fin] (oa (sc_ C4) (o1 (decide_eq_false c5) (oa (sc_ C7) (o1 (decide_eq_true c8) on)))) (by kernel_rfl)
    · replace h := (if_neg c8).symm.trans h
      obtain ⟨t5, g12, h⟩ := bindN h
      let C12 := mkCon (laws_szWindow.ok a0.f2 t3 t5 g12) laws_szWindow.go
      by_cases c13 : t5 < 0
      · replace h := (if_pos c13).symm.trans h
        cases h
        exact byRet MX Tryz.func7 1000 [.call C4, .b false, .call C7, .b false, .call C12, .b true, .fin] (oa (sc_ C4) (o1 (decide_eq_false c5) (oa (sc_ C7) (o1 (decide_eq_false c8) (oa (sc_ C12) (o1 (decide_eq_true c13) on)))))) (by kernel_rfl)
      · replace h := (if_neg c13).symm.trans h
        obtain ⟨t14, g29, h⟩ := bindN h
        let C29 := mkCon (laws_szPlan.ok k a0.f5 t5 t14 g29) laws_szPlan.go
        by_cases c30 : t14 < 0
        · replace h := (if_pos c30).symm.trans h
          cases h
          exact byRet MX Tryz.func7 1000 [.call C4, .b false, .call C7, .b false, .call C12, .b false, .call C29, .b true, .fin] (oa (sc_ C4) (o1 (decide_eq_false c5) (oa (sc_ C7) (o1 (decide_eq_false c8) (oa (sc_ C12) (o1 (decide_eq_false c13) (oa (sc_ C29) (o1 (decide_eq_true c30) on)))))))) (by kernel_rfl)
        · replace h := (if_neg c30).symm.trans h
          obtain ⟨t15, g32, h⟩ := bindN h
          let C32 := mkCon (laws_szJobS.ok a0.f6 t14 t15 g32) laws_szJobS.go
          by_cases c33 : t15 < 0
          · replace h := (if_pos c33).symm.trans h
            cases h
            exact byRet MX Tryz.func7 1000 [.call C4, .b false, .call C7, .b false, .call C12, .b false, .call C29, .b false, .call C32, .b true, .fin] (oa (sc_ C4) (o1 (decide_eq_false c5) (oa (sc_ C7) (o1 (decide_eq_false c8) (oa (sc_ C12) (o1 (decide_eq_false c13) (oa (sc_ C29) (o1 (decide_eq_false c30) (oa (sc_ C32) (o1 (decide_eq_true c33) on)))))))))) (by kernel_rfl)
          · replace h := (if_neg c33).symm.trans h
            obtain ⟨t16, g34, h⟩ := bindN h
            let C34 := mkCon (laws_szIntS.ok a0.f7 t15 t16 g34) laws_szIntS.go
            by_cases c35 : t16 < 0
            · replace h := (if_pos c35).symm.trans h
              cases h
              exact byRet MX Tryz.func7 1000 [.call C4, .b false, .call C7, .b false, .call C12, .b false, .call C29, .b false, .call C32, .b false, .call C34, .b true, .fin] (oa (sc_ C4) (o1 (decide_eq_false c5) (oa (sc_ C7) (o1 (decide_eq_false c8) (oa (sc_ C12) (o1 (decide_eq_false c13) (oa (sc_ C29) (o1 (decide_eq_false c30) (oa (sc_ C32) (o1 (decide_eq_false c33) (oa (sc_ C34) (o1 (decide_eq_true c35) on)))))))))))) (by kernel_rfl)
            · replace h := (if_neg c35).symm.trans h
              cases h
              exact byRet MX Tryz.func7 1000 [.call C4, .b false, .call C7, .b false, .call C12, .b false, .call C29, .b false, .call C32, .b false, .call C34, .b false, .fin] (oa (sc_ C4) (o1 (decide_eq_false c5) (oa (sc_ C7) (o1 (decide_eq_false c8) (oa (sc_ C12) (o1 (decide_eq_false c13) (oa (sc_ C29) (o1 (decide_eq_false c30) (oa (sc_ C32) (o1 (decide_eq_false c33) (oa (sc_ C34) (o1 (decide_eq_false c35) on)))))))))))) (by kernel_rfl)

/-! ### laws_toGrid: function 86 -/
def laws_toGrid.f (a0 : S23) : Option S38 := some (⟨a0.f0, a0.f1, a0.f2⟩ : S38)
theorem laws_toGrid.go : Callable Tryz.prog 86 := ⟨_, Tryz.func86, by kernel_rfl, rfl⟩
theorem laws_toGrid.ok (a0 : S23) (r : S38) (h : laws_toGrid.f a0 = some r) : VCalls Tryz.prog 86 [.agg (e23 a0)] [.agg (r38 r)] := by
  unfold laws_toGrid.f at h
  refine VCalls.of (fn := Tryz.f86) (N := 14) Tryz.func86 rfl rfl (fun w0 => ?_)
  cases h
  exact byRet MX Tryz.func86 1000 [.fin] on (by kernel_rfl)

/-! ### laws_toSetup: function 34 -/
def laws_toSetup.f (a0 : S25) : Option S40 := (laws_toGrid.f a0.f0).bind fun t18 => some (⟨t18, a0.f1, a0.f2, a0.f3, a0.f4⟩ : S40)
theorem laws_toSetup.go : Callable Tryz.prog 34 := ⟨_, Tryz.func34, by kernel_rfl, rfl⟩
theorem laws_toSetup.ok (a0 : S25) (r : S40) (h : laws_toSetup.f a0 = some r) : VCalls Tryz.prog 34 [.agg (e25 a0)] [.agg (r40 r)] := by
  unfold laws_toSetup.f at h
  refine VCalls.of (fn := Tryz.f34) (N := 21) Tryz.func34 rfl rfl (fun w0 => ?_)
  obtain ⟨t18, g38, h⟩ := bindN h
  let C38 := mkCon (laws_toGrid.ok a0.f0 t18 g38) laws_toGrid.go
  cases h
  exact byRet MX Tryz.func34 1000 [.call C38, .fin] (oa (sc_ C38) on) (by kernel_rfl)

/-! ### laws_toRobot: function 87 -/
def laws_toRobot.f (a0 : S113) : Option S69 := some (⟨a0.f0, a0.f1, a0.f2, a0.f3⟩ : S69)
theorem laws_toRobot.go : Callable Tryz.prog 87 := ⟨_, Tryz.func87, by kernel_rfl, rfl⟩
theorem laws_toRobot.ok (a0 : S113) (r : S69) (h : laws_toRobot.f a0 = some r) : VCalls Tryz.prog 87 [.agg (e113 a0)] [.agg (r69 r)] := by
  unfold laws_toRobot.f at h
  refine VCalls.of (fn := Tryz.f87) (N := 17) Tryz.func87 rfl rfl (fun w0 => ?_)
  cases h
  exact byRet MX Tryz.func87 1000 [.fin] on (by kernel_rfl)

/-! ### laws_toRobotS: function 35 -/
def laws_toRobotS.h0T (a0 : List S113) (v24 : Int) (v23 : List S69) : List (Nat × AV) := [(0, .t (.c (.p false (R 4 e113 z113 a0)))), (3, .t (.c (.h 448))), (4, .t (.c (.p true (.sc (.int .i64 v24)))))]
def laws_toRobotS.h0H (a0 : List S113) (v24 : Int) (v23 : List S69) : List (Nat × Content) := [(448, .row 69 4 v23.length (fun j => e69 (v23.getD j z69)) true)]
def laws_toRobotS.l0 : Nat → List S113 → List S69 → Int → Option (List S69)
  | 0, _, _, _ => none
  | kq + 1, a0, v23, v24 => if v24 < (a0.length : Int) then (if 0 ≤ v24 then ((laws_toRobot.f (rdD z113 a0 v24)).bind fun t25 => if v24 < (v23.length : Int) then (laws_toRobotS.l0 kq a0 (v23.set v24.toNat t25) (w64 (v24 + 1))) else none) else none) else (some v23)
def laws_toRobotS.f (k : Nat) (a0 : List S113) : Option (List S69) := if 0 ≤ (a0.length : Int) then (if (a0.length : Int).toNat * 32 ≤ 140737488355328 then (laws_toRobotS.l0 k a0 (List.replicate (a0.length : Int).toNat z69) 0) else none) else none
theorem laws_toRobotS.go : Callable Tryz.prog 35 := ⟨_, Tryz.func35, by kernel_rfl, rfl⟩
theorem laws_toRobotS.ok (k : Nat) (a0 : List S113) (r : (List S69)) (h : laws_toRobotS.f k a0 = some r) : VCalls Tryz.prog 35 [.c (R 4 e113 z113 a0)] [.c (.own 69 4 r.length (fun j => e69 (r.getD j z69)))] := by
  unfold laws_toRobotS.f at h
  refine VCalls.of (fn := Tryz.f35) (N := 23) Tryz.func35 rfl rfl (fun w0 => ?_)
  obtain ⟨c40, h⟩ := ifN h
  obtain ⟨c41, h⟩ := ifN h
  have H0 : ∀ (kq : Nat) (v23 : List S69) (v24 : Int), laws_toRobotS.l0 kq a0 v23 v24 = some r → AG Tryz.prog 35 23 [.c (.own 69 4 r.length (fun j => e69 (r.getD j z69)))] w0 (headStk (codeOf Tryz.f35) 0) (mkFS (laws_toRobotS.h0T a0 v24 v23) (laws_toRobotS.h0H a0 v24 v23)) := by
    intro kq
    induction kq with
    | zero => intro v23 v24 h; cases h
    | succ kq ih =>
      intro v23 v24 h
      rw [laws_toRobotS.l0] at h
      by_cases c49 : v24 < (a0.length : Int)
      · replace h := (if_pos c49).symm.trans h
        obtain ⟨c50, h⟩ := ifN h
        obtain ⟨t25, g51, h⟩ := bindN h
        let C51 := mkCon (laws_toRobot.ok (rdD z113 a0 v24) t25 g51) laws_toRobot.go
        obtain ⟨c52, h⟩ := ifN h
        exact byHead MX Tryz.func35 1000 [.b true, .call C51, .aft 999999, orow 448 e69 z69 (v23.set v24.toNat t25), .fin] (o1 (decide_eq_true c49) (o1 c50 (o1 c49 (oa (sc_ C51) (o1 c50 (o1 c52 (o1 (GE.set (e := e69) (d := z69) v23 v24.toNat t25 (lt_toNat c50 c52) rfl) on))))))) (ih (v23.set v24.toNat t25) (w64 (v24 + 1)) h) (by kernel_rfl)
      · replace h := (if_neg c49).symm.trans h
        cases h
        exact byRet MX Tryz.func35 1000 [.b false, .fin, .fin] (o1 (decide_eq_false c49) on) (by kernel_rfl)
  exact byHead MX Tryz.func35 1000 [rowe 7 e69 z69 (List.replicate (a0.length : Int).toNat z69), .fin] (o1 (rfl : (a0.length : Int) = (a0.length : Int)) (o1 c40 (o1 (mxl (b := 32) (by decide) c41) (o1 c41 (o1 (GE.rep (e := e69) (d := z69) (a0.length : Int).toNat (CE.refl _)) on))))) (H0 k (List.replicate (a0.length : Int).toNat z69) 0 h) (by kernel_rfl)

/-! ### laws_toIntS: function 39 -/
def laws_toIntS.h0T (a0 : List Int) (v29 : Int) (v28 : List Int) : List (Nat × AV) := [(0, .t (.c (.p false (R 1 (eI .i64) 0 a0)))), (3, .t (.c (.h 448))), (4, .t (.c (.p true (.sc (.int .i64 v29)))))]
def laws_toIntS.h0H (a0 : List Int) (v29 : Int) (v28 : List Int) : List (Nat × Content) := [(448, .row 3 1 v28.length (fun j => (eI .i64) (v28.getD j 0)) true)]
def laws_toIntS.l0 : Nat → List Int → List Int → Int → Option (List Int)
  | 0, _, _, _ => none
  | kq + 1, a0, v28, v29 => if v29 < (a0.length : Int) then (if 0 ≤ v29 then (if v29 < (v28.length : Int) then (laws_toIntS.l0 kq a0 (v28.set v29.toNat (rdD 0 a0 v29)) (w64 (v29 + 1))) else none) else none) else (some v28)
def laws_toIntS.f (k : Nat) (a0 : List Int) : Option (List Int) := if 0 ≤ (a0.length : Int) then (if (a0.length : Int).toNat * 8 ≤ 140737488355328 then (laws_toIntS.l0 k a0 (List.replicate (a0.length : Int).toNat 0) 0) else none) else none
theorem laws_toIntS.go : Callable Tryz.prog 39 := ⟨_, Tryz.func39, by kernel_rfl, rfl⟩
theorem laws_toIntS.ok (k : Nat) (a0 : List Int) (r : (List Int)) (h : laws_toIntS.f k a0 = some r) : VCalls Tryz.prog 39 [.c (R 1 (eI .i64) 0 a0)] [.c (.own 3 1 r.length (fun j => (eI .i64) (r.getD j 0)))] := by
  unfold laws_toIntS.f at h
  refine VCalls.of (fn := Tryz.f39) (N := 22) Tryz.func39 rfl rfl (fun w0 => ?_)
  obtain ⟨c54, h⟩ := ifN h
  obtain ⟨c55, h⟩ := ifN h
  have H0 : ∀ (kq : Nat) (v28 : List Int) (v29 : Int), laws_toIntS.l0 kq a0 v28 v29 = some r → AG Tryz.prog 39 22 [.c (.own 3 1 r.length (fun j => (eI .i64) (r.getD j 0)))] w0 (headStk (codeOf Tryz.f39) 0) (mkFS (laws_toIntS.h0T a0 v29 v28) (laws_toIntS.h0H a0 v29 v28)) := by
    intro kq
    induction kq with
    | zero => intro v28 v29 h; cases h
    | succ kq ih =>
      intro v28 v29 h
      rw [laws_toIntS.l0] at h
      by_cases c61 : v29 < (a0.length : Int)
      · replace h := (if_pos c61).symm.trans h
        obtain ⟨c62, h⟩ := ifN h
        obtain ⟨c63, h⟩ := ifN h
        exact byHead MX Tryz.func39 1000 [.b true, .aft 999999, orow 448 (eI .i64) 0 (v28.set v29.toNat (rdD 0 a0 v29)), .fin] (o1 (decide_eq_true c61) (o1 c62 (o1 c61 (o1 c62 (o1 c63 (o1 (GE.set (e := (eI .i64)) (d := 0) v28 v29.toNat (rdD 0 a0 v29) (lt_toNat c62 c63) rfl) on)))))) (ih (v28.set v29.toNat (rdD 0 a0 v29)) (w64 (v29 + 1)) h) (by kernel_rfl)
      · replace h := (if_neg c61).symm.trans h
        cases h
        exact byRet MX Tryz.func39 1000 [.b false, .fin, .fin] (o1 (decide_eq_false c61) on) (by kernel_rfl)
  exact byHead MX Tryz.func39 1000 [rowe 7 (eI .i64) 0 (List.replicate (a0.length : Int).toNat 0), .fin] (o1 (rfl : (a0.length : Int) = (a0.length : Int)) (o1 c54 (o1 (mxl (b := 8) (by decide) c55) (o1 c55 (o1 (GE.rep (e := (eI .i64)) (d := 0) (a0.length : Int).toNat (CE.refl _)) on))))) (H0 k (List.replicate (a0.length : Int).toNat 0) 0 h) (by kernel_rfl)

/-! ### laws_toWindow: function 36 -/
def laws_toWindow.f (k : Nat) (a0 : S29) : Option S42 := (laws_toIntS.f k a0.f2).bind fun t30 => some (⟨a0.f0, a0.f1, t30⟩ : S42)
theorem laws_toWindow.go : Callable Tryz.prog 36 := ⟨_, Tryz.func36, by kernel_rfl, rfl⟩
theorem laws_toWindow.ok (k : Nat) (a0 : S29) (r : S42) (h : laws_toWindow.f k a0 = some r) : VCalls Tryz.prog 36 [.agg (e29 a0)] [.agg (r42 r)] := by
  unfold laws_toWindow.f at h
  refine VCalls.of (fn := Tryz.f36) (N := 15) Tryz.func36 rfl rfl (fun w0 => ?_)
  obtain ⟨t30, g64, h⟩ := bindN h
  let C64 := mkCon (laws_toIntS.ok k a0.f2 t30 g64) laws_toIntS.go
  cases h
  exact byRet MX Tryz.func36 1000 [.call C64, .fin] (oa (sc_ C64) on) (by kernel_rfl)

/-! ### laws_toWay: function 157 -/
def laws_toWay.f (k : Nat) (a0 : S147) : Option S72 := (laws_toIntS.f k a0.f0).bind fun t32 => some (⟨t32⟩ : S72)
theorem laws_toWay.go : Callable Tryz.prog 157 := ⟨_, Tryz.func157, by kernel_rfl, rfl⟩
theorem laws_toWay.ok (k : Nat) (a0 : S147) (r : S72) (h : laws_toWay.f k a0 = some r) : VCalls Tryz.prog 157 [.agg (e147 a0)] [.agg (r72 r)] := by
  unfold laws_toWay.f at h
  refine VCalls.of (fn := Tryz.f157) (N := 9) Tryz.func157 rfl rfl (fun w0 => ?_)
  obtain ⟨t32, g69, h⟩ := bindN h
  let C69 := mkCon (laws_toIntS.ok k a0.f0 t32 g69) laws_toIntS.go
  cases h
  exact byRet MX Tryz.func157 1000 [.call C69, .fin] (oa (sc_ C69) on) (by kernel_rfl)

/-! ### laws_toWayS: function 88 -/
def laws_toWayS.h0T (a0 : List S147) (v37 : Int) (v36 : List S72) : List (Nat × AV) := [(0, .t (.c (.p false (R 1 e147 z147 a0)))), (3, .t (.c (.hn 448))), (4, .t (.c (.p true (.sc (.int .i64 v37)))))]
def laws_toWayS.h0H (a0 : List S147) (v37 : Int) (v36 : List S72) : List (Nat × Content) := [(448, NC 72 3 S72.f0 (Value.int .i64) z72 0 v36)]
def laws_toWayS.l0 : Nat → List S147 → List S72 → Int → Option (List S72)
  | 0, _, _, _ => none
  | kq + 1, a0, v36, v37 => if v37 < (a0.length : Int) then (if 0 ≤ v37 then ((laws_toWay.f kq (rdD z147 a0 v37)).bind fun t38 => if v37 < (v36.length : Int) then (laws_toWayS.l0 kq a0 (v36.set v37.toNat t38) (w64 (v37 + 1))) else none) else none) else (some v36)
def laws_toWayS.f (k : Nat) (a0 : List S147) : Option (List S72) := if 0 ≤ (a0.length : Int) then (if (a0.length : Int).toNat * 24 ≤ 140737488355328 then (laws_toWayS.l0 k a0 (List.replicate (a0.length : Int).toNat z72) 0) else none) else none
theorem laws_toWayS.go : Callable Tryz.prog 88 := ⟨_, Tryz.func88, by kernel_rfl, rfl⟩
theorem laws_toWayS.ok (k : Nat) (a0 : List S147) (r : (List S72)) (h : laws_toWayS.f k a0 = some r) : VCalls Tryz.prog 88 [.c (R 1 e147 z147 a0)] [.c (NR 72 3 S72.f0 (Value.int .i64) z72 0 r)] := by
  unfold laws_toWayS.f at h
  refine VCalls.of (fn := Tryz.f88) (N := 23) Tryz.func88 rfl rfl (fun w0 => ?_)
  obtain ⟨c66, h⟩ := ifN h
  obtain ⟨c67, h⟩ := ifN h
  have H0 : ∀ (kq : Nat) (v36 : List S72) (v37 : Int), laws_toWayS.l0 kq a0 v36 v37 = some r → AG Tryz.prog 88 23 [.c (NR 72 3 S72.f0 (Value.int .i64) z72 0 r)] w0 (headStk (codeOf Tryz.f88) 0) (mkFS (laws_toWayS.h0T a0 v37 v36) (laws_toWayS.h0H a0 v37 v36)) := by
    intro kq
    induction kq with
    | zero => intro v36 v37 h; cases h
    | succ kq ih =>
      intro v36 v37 h
      rw [laws_toWayS.l0] at h
      by_cases c76 : v37 < (a0.length : Int)
      · replace h := (if_pos c76).symm.trans h
        obtain ⟨c77, h⟩ := ifN h
        obtain ⟨t38, g78, h⟩ := bindN h
        let C78 := mkCon (laws_toWay.ok kq (rdD z147 a0 v37) t38 g78) laws_toWay.go
        obtain ⟨c79, h⟩ := ifN h
        exact byHead MX Tryz.func88 1000 [.b true, .call C78, .aft 999999, nrow 448 S72.f0 (Value.int .i64) z72 0 (v36.set v37.toNat t38), .fin] (o1 (decide_eq_true c76) (o1 c77 (o1 c76 (oa (sc_ C78) (o1 c77 (o1 c79 (o1 (SC.of (e := (eI .i64)) (d := 0) t38.f0 (by intro x; rfl)) (o1 (GEN.set S72.f0 (Value.int .i64) z72 0 v36 v37.toNat t38 (lt_toNat c77 c79) rfl (fun _ => rfl)) on)))))))) (ih (v36.set v37.toNat t38) (w64 (v37 + 1)) h) (by kernel_rfl)
      · replace h := (if_neg c76).symm.trans h
        cases h
        exact byRet MX Tryz.func88 1000 [.b false, .fin, .fin] (o1 (decide_eq_false c76) on) (by kernel_rfl)
  exact byHead MX Tryz.func88 1000 [.aft 7, .toN 448 3, nrow 448 S72.f0 (Value.int .i64) z72 0 (List.replicate (a0.length : Int).toNat z72), .fin] (o1 (rfl : (a0.length : Int) = (a0.length : Int)) (o1 c66 (o1 (mxl (b := 24) (by decide) c67) (o1 c67 (o1 (nilG.z (a0.length : Int).toNat) (o1 (GEN.rep S72.f0 (Value.int .i64) z72 0 (a0.length : Int).toNat rfl) on)))))) (H0 k (List.replicate (a0.length : Int).toNat z72) 0 h) (by kernel_rfl)

/-! ### laws_toPlan: function 37 -/
def laws_toPlan.f (k : Nat) (a0 : S32) : Option S45 := (laws_toWayS.f k a0.f2).bind fun t39 => some (⟨a0.f0, a0.f1, t39⟩ : S45)
theorem laws_toPlan.go : Callable Tryz.prog 37 := ⟨_, Tryz.func37, by kernel_rfl, rfl⟩
theorem laws_toPlan.ok (k : Nat) (a0 : S32) (r : S45) (h : laws_toPlan.f k a0 = some r) : VCalls Tryz.prog 37 [.agg (e32 a0)] [.agg (rn45 r)] := by
  unfold laws_toPlan.f at h
  refine VCalls.of (fn := Tryz.f37) (N := 15) Tryz.func37 rfl rfl (fun w0 => ?_)
  obtain ⟨t39, g80, h⟩ := bindN h
  let C80 := mkCon (laws_toWayS.ok k a0.f2 t39 g80) laws_toWayS.go
  cases h
  exact byRet MX Tryz.func37 1000 [.call C80, .fin] (oa (sc_ C80) on) (by kernel_rfl)

/-! ### laws_toJob: function 89 -/
def laws_toJob.f (a0 : S116) : Option S74 := some (⟨a0.f0, a0.f1, a0.f2⟩ : S74)
theorem laws_toJob.go : Callable Tryz.prog 89 := ⟨_, Tryz.func89, by kernel_rfl, rfl⟩
theorem laws_toJob.ok (a0 : S116) (r : S74) (h : laws_toJob.f a0 = some r) : VCalls Tryz.prog 89 [.agg (e116 a0)] [.agg (r74 r)] := by
  unfold laws_toJob.f at h
  refine VCalls.of (fn := Tryz.f89) (N := 14) Tryz.func89 rfl rfl (fun w0 => ?_)
  cases h
  exact byRet MX Tryz.func89 1000 [.fin] on (by kernel_rfl)

/-! ### laws_toJobS: function 38 -/
def laws_toJobS.h0T (a0 : List S116) (v45 : Int) (v44 : List S74) : List (Nat × AV) := [(0, .t (.c (.p false (R 3 e116 z116 a0)))), (3, .t (.c (.h 448))), (4, .t (.c (.p true (.sc (.int .i64 v45)))))]
def laws_toJobS.h0H (a0 : List S116) (v45 : Int) (v44 : List S74) : List (Nat × Content) := [(448, .row 74 3 v44.length (fun j => e74 (v44.getD j z74)) true)]
def laws_toJobS.l0 : Nat → List S116 → List S74 → Int → Option (List S74)
  | 0, _, _, _ => none
  | kq + 1, a0, v44, v45 => if v45 < (a0.length : Int) then (if 0 ≤ v45 then ((laws_toJob.f (rdD z116 a0 v45)).bind fun t46 => if v45 < (v44.length : Int) then (laws_toJobS.l0 kq a0 (v44.set v45.toNat t46) (w64 (v45 + 1))) else none) else none) else (some v44)
def laws_toJobS.f (k : Nat) (a0 : List S116) : Option (List S74) := if 0 ≤ (a0.length : Int) then (if (a0.length : Int).toNat * 24 ≤ 140737488355328 then (laws_toJobS.l0 k a0 (List.replicate (a0.length : Int).toNat z74) 0) else none) else none
theorem laws_toJobS.go : Callable Tryz.prog 38 := ⟨_, Tryz.func38, by kernel_rfl, rfl⟩
theorem laws_toJobS.ok (k : Nat) (a0 : List S116) (r : (List S74)) (h : laws_toJobS.f k a0 = some r) : VCalls Tryz.prog 38 [.c (R 3 e116 z116 a0)] [.c (.own 74 3 r.length (fun j => e74 (r.getD j z74)))] := by
  unfold laws_toJobS.f at h
  refine VCalls.of (fn := Tryz.f38) (N := 23) Tryz.func38 rfl rfl (fun w0 => ?_)
  obtain ⟨c82, h⟩ := ifN h
  obtain ⟨c83, h⟩ := ifN h
  have H0 : ∀ (kq : Nat) (v44 : List S74) (v45 : Int), laws_toJobS.l0 kq a0 v44 v45 = some r → AG Tryz.prog 38 23 [.c (.own 74 3 r.length (fun j => e74 (r.getD j z74)))] w0 (headStk (codeOf Tryz.f38) 0) (mkFS (laws_toJobS.h0T a0 v45 v44) (laws_toJobS.h0H a0 v45 v44)) := by
    intro kq
    induction kq with
    | zero => intro v44 v45 h; cases h
    | succ kq ih =>
      intro v44 v45 h
      rw [laws_toJobS.l0] at h
      by_cases c91 : v45 < (a0.length : Int)
      · replace h := (if_pos c91).symm.trans h
        obtain ⟨c92, h⟩ := ifN h
        obtain ⟨t46, g93, h⟩ := bindN h
        let C93 := mkCon (laws_toJob.ok (rdD z116 a0 v45) t46 g93) laws_toJob.go
        obtain ⟨c94, h⟩ := ifN h
        exact byHead MX Tryz.func38 1000 [.b true, .call C93, .aft 999999, orow 448 e74 z74 (v44.set v45.toNat t46), .fin] (o1 (decide_eq_true c91) (o1 c92 (o1 c91 (oa (sc_ C93) (o1 c92 (o1 c94 (o1 (GE.set (e := e74) (d := z74) v44 v45.toNat t46 (lt_toNat c92 c94) rfl) on))))))) (ih (v44.set v45.toNat t46) (w64 (v45 + 1)) h) (by kernel_rfl)
      · replace h := (if_neg c91).symm.trans h
        cases h
        exact byRet MX Tryz.func38 1000 [.b false, .fin, .fin] (o1 (decide_eq_false c91) on) (by kernel_rfl)
  exact byHead MX Tryz.func38 1000 [rowe 7 e74 z74 (List.replicate (a0.length : Int).toNat z74), .fin] (o1 (rfl : (a0.length : Int) = (a0.length : Int)) (o1 c82 (o1 (mxl (b := 24) (by decide) c83) (o1 c83 (o1 (GE.rep (e := e74) (d := z74) (a0.length : Int).toNat (CE.refl _)) on))))) (H0 k (List.replicate (a0.length : Int).toNat z74) 0 h) (by kernel_rfl)

/-! ### laws_toYard: function 9 -/
def laws_toYard.f (k : Nat) (a0 : S35) : Option S48 := (laws_toSetup.f a0.f0).bind fun t19 => (laws_toRobotS.f k a0.f1).bind fun t26 => (laws_toWindow.f k a0.f2).bind fun t31 => (laws_toPlan.f k a0.f5).bind fun t40 => (laws_toJobS.f k a0.f6).bind fun t47 => (laws_toIntS.f k a0.f7).bind fun t48 => some (⟨t19, t26, t31, a0.f3, a0.f4, t40, t47, t48⟩ : S48)
theorem laws_toYard.go : Callable Tryz.prog 9 := ⟨_, Tryz.func9, by kernel_rfl, rfl⟩
theorem laws_toYard.ok (k : Nat) (a0 : S35) (r : S48) (h : laws_toYard.f k a0 = some r) : VCalls Tryz.prog 9 [.agg (e35 a0)] [.agg (rn48 r)] := by
  unfold laws_toYard.f at h
  refine VCalls.of (fn := Tryz.f9) (N := 35) Tryz.func9 rfl rfl (fun w0 => ?_)
  obtain ⟨t19, g39, h⟩ := bindN h
  let C39 := mkCon (laws_toSetup.ok a0.f0 t19 g39) laws_toSetup.go
  obtain ⟨t26, g53, h⟩ := bindN h
  let C53 := mkCon (laws_toRobotS.ok k a0.f1 t26 g53) laws_toRobotS.go
  obtain ⟨t31, g65, h⟩ := bindN h
  let C65 := mkCon (laws_toWindow.ok k a0.f2 t31 g65) laws_toWindow.go
  obtain ⟨t40, g81, h⟩ := bindN h
  let C81 := mkCon (laws_toPlan.ok k a0.f5 t40 g81) laws_toPlan.go
  obtain ⟨t47, g95, h⟩ := bindN h
  let C95 := mkCon (laws_toJobS.ok k a0.f6 t47 g95) laws_toJobS.go
  obtain ⟨t48, g96, h⟩ := bindN h
  let C96 := mkCon (laws_toIntS.ok k a0.f7 t48 g96) laws_toIntS.go
  cases h
  exact byRet MX Tryz.func9 1000 [.call C39, .call C53, .call C65, .call C81, .call C95, .call C96, .fin] (oa (sc_ C39) (oa (sc_ C53) (oa (sc_ C65) (oa (sc_ C81) (oa (sc_ C95) (oa (sc_ C96) on)))))) (by kernel_rfl)

/-! ### spec_l01In: function 79 -/
def spec_l01In.f (a0 : Int) (a1 : Int) (a2 : Int) : Option Bool := if a1 ≤ a0 then (some (decide (a0 ≤ a2))) else (some false)
theorem spec_l01In.go : Callable Tryz.prog 79 := ⟨_, Tryz.func79, by kernel_rfl, rfl⟩
theorem spec_l01In.ok (a0 : Int) (a1 : Int) (a2 : Int) (r : Bool) (h : spec_l01In.f a0 a1 a2 = some r) : VCalls Tryz.prog 79 [.c (.sc (.int .i64 a0)), .c (.sc (.int .i64 a1)), .c (.sc (.int .i64 a2))] [.c (.p (.sc (.bool r)))] := by
  unfold spec_l01In.f at h
  refine VCalls.of (fn := Tryz.f79) (N := 15) Tryz.func79 rfl rfl (fun w0 => ?_)
  by_cases c98 : a1 ≤ a0
  · replace h := (if_pos c98).symm.trans h
    cases h
    exact byRet MX Tryz.func79 1000 [.dec 10 true, .fin] (o1 (decide_eq_true c98) on) (by kernel_rfl)
  · replace h := (if_neg c98).symm.trans h
    cases h
    exact byRet MX Tryz.func79 1000 [.dec 10 false, .fin] (o1 (decide_eq_false c98) on) (by kernel_rfl)

/-! ### spec_WindowNew: function 145 -/
def spec_WindowNew.f (a0 : Int) (a1 : Int) : Option (S42 × Bool) := (spec_l01In.f a0 1 8).bind fun t50 => if t50 = true then ((spec_l01In.f a1 1 100).bind fun t51 => if t51 = true then (if 0 ≤ (w64 (a0 * 6)) then (if (w64 (a0 * 6)).toNat * 8 ≤ 140737488355328 then (some ((⟨a0, a1, (List.replicate (w64 (a0 * 6)).toNat 0)⟩ : S42), true)) else none) else none) else (some ((⟨0, 0, ([] : List Int)⟩ : S42), false))) else (some ((⟨0, 0, ([] : List Int)⟩ : S42), false))
theorem spec_WindowNew.go : Callable Tryz.prog 145 := ⟨_, Tryz.func145, by kernel_rfl, rfl⟩
theorem spec_WindowNew.ok (a0 : Int) (a1 : Int) (r : S42 × Bool) (h : spec_WindowNew.f a0 a1 = some r) : VCalls Tryz.prog 145 [.c (.sc (.int .i64 a0)), .c (.sc (.int .i64 a1))] [.agg (r42 r.1), .c (.p (.sc (.bool r.2)))] := by
  unfold spec_WindowNew.f at h
  refine VCalls.of (fn := Tryz.f145) (N := 21) Tryz.func145 rfl rfl (fun w0 => ?_)
  obtain ⟨t50, g99, h⟩ := bindN h
  let C99 := mkCon (spec_l01In.ok a0 1 8 t50 g99) spec_l01In.go
  by_cases c100 : t50 = true
  · replace h := (if_pos c100).symm.trans h
    obtain ⟨t51, g101, h⟩ := bindN h
    let C101 := mkCon (spec_l01In.ok a1 1 100 t51 g101) spec_l01In.go
    by_cases c102 : t51 = true
    · replace h := (if_pos c102).symm.trans h
      obtain ⟨c103, h⟩ := ifN h
      obtain ⟨c104, h⟩ := ifN h
      cases h
      exact byRet MX Tryz.func145 1000 [.call C99, .dec 9 false, .call C101, .b false, rowe 19 (eI .i64) 0 (List.replicate (w64 (a0 * 6)).toNat 0), .fin] (oa (sc_ C99) (o1 (bnf c100) (oa (sc_ C101) (o1 (bnf c102) (o1 (rfl : (w64 (a0 * 6)) = (w64 (a0 * 6))) (o1 c103 (o1 (mxl (b := 8) (by decide) c104) (o1 c104 (o1 (GE.rep (e := (eI .i64)) (d := 0) (w64 (a0 * 6)).toNat (CE.refl _)) on))))))))) (by kernel_rfl)
    · replace h := (if_neg c102).symm.trans h
      cases h
      exact byRet MX Tryz.func145 1000 [.call C99, .dec 9 false, .call C101, .b true, .fin, .nilB 256 2 448258 3 1, orow 448258 (eI .i64) 0 ([] : List Int)] (oa (sc_ C99) (o1 (bnf c100) (oa (sc_ C101) (o1 (bnt (eqf c102)) (o1 (GE.nil (eI .i64) 0) on))))) (by kernel_rfl)
  · replace h := (if_neg c100).symm.trans h
    cases h
    exact byRet MX Tryz.func145 1000 [.call C99, .dec 9 true, .b true, .fin, .nilB 256 2 448258 3 1, orow 448258 (eI .i64) 0 ([] : List Int)] (oa (sc_ C99) (o1 (bnt (eqf c100)) (o1 (rfl : true = true) (o1 (GE.nil (eI .i64) 0) on)))) (by kernel_rfl)

/-! ### spec_l02Kind: function 185 -/
def spec_l02Kind.f (a0 : Int) : Option Bool := if a0 = 46 then (some true) else (if a0 = 35 then (some true) else (if 97 ≤ a0 then (if a0 ≤ 102 then (some true) else (if 65 ≤ a0 then (some (decide (a0 ≤ 70))) else (some false))) else (if 65 ≤ a0 then (some (decide (a0 ≤ 70))) else (some false))))
theorem spec_l02Kind.go : Callable Tryz.prog 185 := ⟨_, Tryz.func185, by kernel_rfl, rfl⟩
theorem spec_l02Kind.ok (a0 : Int) (r : Bool) (h : spec_l02Kind.f a0 = some r) : VCalls Tryz.prog 185 [.c (.sc (.int .u8 a0))] [.c (.p (.sc (.bool r)))] := by
  unfold spec_l02Kind.f at h
  refine VCalls.of (fn := Tryz.f185) (N := 25) Tryz.func185 rfl rfl (fun w0 => ?_)
  by_cases c112 : a0 = 46
  · replace h := (if_pos c112).symm.trans h
    cases h
    exact byRet MX Tryz.func185 1000 [.dec 5 true, .fin] (o1 (decide_eq_true c112) on) (by kernel_rfl)
  · replace h := (if_neg c112).symm.trans h
    by_cases c113 : a0 = 35
    · replace h := (if_pos c113).symm.trans h
      cases h
      exact byRet MX Tryz.func185 1000 [.dec 5 false, .dec 9 true, .fin] (o1 (decide_eq_false c112) (o1 (decide_eq_true c113) on)) (by kernel_rfl)
    · replace h := (if_neg c113).symm.trans h
      by_cases c114 : 97 ≤ a0
      · replace h := (if_pos c114).symm.trans h
        by_cases c115 : a0 ≤ 102
        · replace h := (if_pos c115).symm.trans h
          cases h
          exact byRet MX Tryz.func185 1000 [.dec 5 false, .dec 9 false, .dec 12 true, .dec 17 true, .fin] (o1 (decide_eq_false c112) (o1 (decide_eq_false c113) (o1 (decide_eq_true c114) (o1 (decide_eq_true c115) on)))) (by kernel_rfl)
        · replace h := (if_neg c115).symm.trans h
          by_cases c116 : 65 ≤ a0
          · replace h := (if_pos c116).symm.trans h
            cases h
            exact byRet MX Tryz.func185 1000 [.dec 5 false, .dec 9 false, .dec 12 true, .dec 17 false, .dec 20 true, .fin] (o1 (decide_eq_false c112) (o1 (decide_eq_false c113) (o1 (decide_eq_true c114) (o1 (decide_eq_false c115) (o1 (decide_eq_true c116) on))))) (by kernel_rfl)
          · replace h := (if_neg c116).symm.trans h
            cases h
            exact byRet MX Tryz.func185 1000 [.dec 5 false, .dec 9 false, .dec 12 true, .dec 17 false, .dec 20 false, .fin] (o1 (decide_eq_false c112) (o1 (decide_eq_false c113) (o1 (decide_eq_true c114) (o1 (decide_eq_false c115) (o1 (decide_eq_false c116) on))))) (by kernel_rfl)
      · replace h := (if_neg c114).symm.trans h
        by_cases c117 : 65 ≤ a0
        · replace h := (if_pos c117).symm.trans h
          cases h
          exact byRet MX Tryz.func185 1000 [.dec 5 false, .dec 9 false, .dec 12 false, .dec 20 true, .fin] (o1 (decide_eq_false c112) (o1 (decide_eq_false c113) (o1 (decide_eq_false c114) (o1 (decide_eq_true c117) on)))) (by kernel_rfl)
        · replace h := (if_neg c117).symm.trans h
          cases h
          exact byRet MX Tryz.func185 1000 [.dec 5 false, .dec 9 false, .dec 12 false, .dec 20 false, .fin] (o1 (decide_eq_false c112) (o1 (decide_eq_false c113) (o1 (decide_eq_false c114) (o1 (decide_eq_false c117) on)))) (by kernel_rfl)

/-! ### spec_GridOk: function 126 -/
def spec_GridOk.h0T (v56 : Int) (a0 : S38) : List (Nat × AV) := [(1, .ptr 64 0), (3, .t (.c (.p true (.sc (.int .i64 v56)))))]
def spec_GridOk.h0H (v56 : Int) (a0 : S38) : List (Nat × Content) := [(64, .box 38 [.p false (.sc (.int .i64 a0.f0)), .p false (.sc (.int .i64 a0.f1)), .p false (.sc (.string a0.f2))])]
def spec_GridOk.l0 : Nat → S38 → Int → Option Bool
  | 0, _, _ => none
  | kq + 1, a0, v56 => if v56 < (a0.f2.size : Int) then (if 0 ≤ v56 then ((spec_l02Kind.f (bt a0.f2 v56)).bind fun t57 => if t57 = true then (spec_GridOk.l0 kq a0 (w64 (v56 + 1))) else (some false)) else none) else (some true)
def spec_GridOk.f (k : Nat) (a0 : S38) : Option Bool := (spec_l01In.f a0.f0 1 8).bind fun t53 => if t53 = true then ((spec_l01In.f a0.f1 1 8).bind fun t54 => if t54 = true then (if (a0.f2.size : Int) = (w64 (a0.f0 * a0.f1)) then (spec_GridOk.l0 k a0 0) else (some false)) else (some false)) else (some false)
theorem spec_GridOk.go : Callable Tryz.prog 126 := ⟨_, Tryz.func126, by kernel_rfl, rfl⟩
theorem spec_GridOk.ok (k : Nat) (a0 : S38) (r : Bool) (h : spec_GridOk.f k a0 = some r) : VCalls Tryz.prog 126 [.agg (e38 a0)] [.c (.p (.sc (.bool r)))] := by
  unfold spec_GridOk.f at h
  refine VCalls.of (fn := Tryz.f126) (N := 38) Tryz.func126 rfl rfl (fun w0 => ?_)
  obtain ⟨t53, g106, h⟩ := bindN h
  let C106 := mkCon (spec_l01In.ok a0.f0 1 8 t53 g106) spec_l01In.go
  by_cases c107 : t53 = true
  · replace h := (if_pos c107).symm.trans h
    obtain ⟨t54, g108, h⟩ := bindN h
    let C108 := mkCon (spec_l01In.ok a0.f1 1 8 t54 g108) spec_l01In.go
    by_cases c109 : t54 = true
    · replace h := (if_pos c109).symm.trans h
      by_cases c110 : (a0.f2.size : Int) = (w64 (a0.f0 * a0.f1))
      · replace h := (if_pos c110).symm.trans h
        have H0 : ∀ (kq : Nat) (v56 : Int), spec_GridOk.l0 kq a0 v56 = some r → AG Tryz.prog 126 38 [.c (.p (.sc (.bool r)))] w0 (headStk (codeOf Tryz.f126) 0) (mkFS (spec_GridOk.h0T v56 a0) (spec_GridOk.h0H v56 a0)) := by
          intro kq
          induction kq with
          | zero => intro v56 h; cases h
          | succ kq ih =>
            intro v56 h
            rw [spec_GridOk.l0] at h
            by_cases c120 : v56 < (a0.f2.size : Int)
            · replace h := (if_pos c120).symm.trans h
              obtain ⟨c121, h⟩ := ifN h
              obtain ⟨t57, g122, h⟩ := bindN h
              let C122 := mkCon (spec_l02Kind.ok (bt a0.f2 v56) t57 g122) spec_l02Kind.go
              by_cases c123 : t57 = true
              · replace h := (if_pos c123).symm.trans h
                exact byHead MX Tryz.func126 1000 [.b true, .call C122, .b false, .fin] (o1 (decide_eq_true c120) (o1 c121 (o1 c120 (oa (sc_ C122) (o1 (bnf c123) on))))) (ih (w64 (v56 + 1)) h) (by kernel_rfl)
              · replace h := (if_neg c123).symm.trans h
                cases h
                exact byRet MX Tryz.func126 1000 [.b true, .call C122, .b true, .fin] (o1 (decide_eq_true c120) (o1 c121 (o1 c120 (oa (sc_ C122) (o1 (bnt (eqf c123)) on))))) (by kernel_rfl)
            · replace h := (if_neg c120).symm.trans h
              cases h
              exact byRet MX Tryz.func126 1000 [.b false, .fin, .fin] (o1 (decide_eq_false c120) on) (by kernel_rfl)
        exact byHead MX Tryz.func126 1000 [.call C106, .dec 8 false, .call C108, .dec 14 false, .b false, .fin] (oa (sc_ C106) (o1 (bnf c107) (oa (sc_ C108) (o1 (bnf c109) (o1 (bnf (decide_eq_true c110)) on))))) (H0 k 0 h) (by kernel_rfl)
      · replace h := (if_neg c110).symm.trans h
        cases h
        exact byRet MX Tryz.func126 1000 [.call C106, .dec 8 false, .call C108, .dec 14 false, .b true, .fin] (oa (sc_ C106) (o1 (bnf c107) (oa (sc_ C108) (o1 (bnf c109) (o1 (bnt (decide_eq_false c110)) on))))) (by kernel_rfl)
    · replace h := (if_neg c109).symm.trans h
      cases h
      exact byRet MX Tryz.func126 1000 [.call C106, .dec 8 false, .call C108, .dec 14 true, .b true, .fin] (oa (sc_ C106) (o1 (bnf c107) (oa (sc_ C108) (o1 (bnt (eqf c109)) (o1 (rfl : true = true) on))))) (by kernel_rfl)
  · replace h := (if_neg c107).symm.trans h
    cases h
    exact byRet MX Tryz.func126 1000 [.call C106, .dec 8 true, .b true, .fin] (oa (sc_ C106) (o1 (bnt (eqf c107)) (o1 (rfl : true = true) on))) (by kernel_rfl)

/-! ### spec_SetupOk: function 76 -/
def spec_SetupOk.f (k : Nat) (a0 : S40) : Option Bool := (spec_WindowNew.f a0.f2 a0.f3).bind fun t52 => (spec_GridOk.f k a0.f0).bind fun t58 => if t58 = true then ((spec_l01In.f a0.f1 1 20).bind fun t59 => if t59 = true then (if t52.2 = true then ((spec_l01In.f a0.f4 0 20).bind fun t60 => some t60) else (some false)) else (some false)) else (some false)
theorem spec_SetupOk.go : Callable Tryz.prog 76 := ⟨_, Tryz.func76, by kernel_rfl, rfl⟩
theorem spec_SetupOk.ok (k : Nat) (a0 : S40) (r : Bool) (h : spec_SetupOk.f k a0 = some r) : VCalls Tryz.prog 76 [.agg (e40 a0)] [.c (.p (.sc (.bool r)))] := by
  unfold spec_SetupOk.f at h
  refine VCalls.of (fn := Tryz.f76) (N := 29) Tryz.func76 rfl rfl (fun w0 => ?_)
  obtain ⟨t52, g105, h⟩ := bindN h
  let C105 := mkCon (spec_WindowNew.ok a0.f2 a0.f3 t52 g105) spec_WindowNew.go
  obtain ⟨t58, g124, h⟩ := bindN h
  let C124 := mkCon (spec_GridOk.ok k a0.f0 t58 g124) spec_GridOk.go
  by_cases c125 : t58 = true
  · replace h := (if_pos c125).symm.trans h
    obtain ⟨t59, g126, h⟩ := bindN h
    let C126 := mkCon (spec_l01In.ok a0.f1 1 20 t59 g126) spec_l01In.go
    by_cases c127 : t59 = true
    · replace h := (if_pos c127).symm.trans h
      by_cases c128 : t52.2 = true
      · replace h := (if_pos c128).symm.trans h
        obtain ⟨t60, g129, h⟩ := bindN h
        let C129 := mkCon (spec_l01In.ok a0.f4 0 20 t60 g129) spec_l01In.go
        cases h
        exact byRet MX Tryz.func76 1000 [.call C105, .call C124, .dec 16 true, .call C126, .dec 21 true, .dec 24 true, .call C129, .fin] (oa (sc_ C105) (oa (sc_ C124) (o1 c125 (oa (sc_ C126) (o1 c127 (o1 c128 (oa (sc_ C129) on))))))) (by kernel_rfl)
      · replace h := (if_neg c128).symm.trans h
        cases h
        exact byRet MX Tryz.func76 1000 [.call C105, .call C124, .dec 16 true, .call C126, .dec 21 true, .dec 24 false, .fin] (oa (sc_ C105) (oa (sc_ C124) (o1 c125 (oa (sc_ C126) (o1 c127 (o1 (eqf c128) on)))))) (by kernel_rfl)
    · replace h := (if_neg c127).symm.trans h
      cases h
      exact byRet MX Tryz.func76 1000 [.call C105, .call C124, .dec 16 true, .call C126, .dec 21 false, .fin] (oa (sc_ C105) (oa (sc_ C124) (o1 c125 (oa (sc_ C126) (o1 (eqf c127) on))))) (by kernel_rfl)
  · replace h := (if_neg c125).symm.trans h
    cases h
    exact byRet MX Tryz.func76 1000 [.call C105, .call C124, .dec 16 false, .fin] (oa (sc_ C105) (oa (sc_ C124) (o1 (eqf c125) on))) (by kernel_rfl)

/-! ### spec_FreeAt: function 146 -/
def spec_FreeAt.f (k : Nat) (a0 : S38) (a1 : Int) : Option Bool := (spec_GridOk.f k a0).bind fun t64 => if t64 = true then (if 0 ≤ a1 then (if a1 < (a0.f2.size : Int) then (some (!decide ((bt a0.f2 a1) = 35))) else (some false)) else (some false)) else (some false)
theorem spec_FreeAt.go : Callable Tryz.prog 146 := ⟨_, Tryz.func146, by kernel_rfl, rfl⟩
theorem spec_FreeAt.ok (k : Nat) (a0 : S38) (a1 : Int) (r : Bool) (h : spec_FreeAt.f k a0 a1 = some r) : VCalls Tryz.prog 146 [.agg (e38 a0), .c (.sc (.int .i64 a1))] [.c (.p (.sc (.bool r)))] := by
  unfold spec_FreeAt.f at h
  refine VCalls.of (fn := Tryz.f146) (N := 25) Tryz.func146 rfl rfl (fun w0 => ?_)
  obtain ⟨t64, g142, h⟩ := bindN h
  let C142 := mkCon (spec_GridOk.ok k a0 t64 g142) spec_GridOk.go
  by_cases c143 : t64 = true
  · replace h := (if_pos c143).symm.trans h
    by_cases c144 : 0 ≤ a1
    · replace h := (if_pos c144).symm.trans h
      by_cases c145 : a1 < (a0.f2.size : Int)
      · replace h := (if_pos c145).symm.trans h
        cases h
        exact byRet MX Tryz.func146 1000 [.call C142, .dec 7 true, .dec 11 true, .dec 18 true, .fin] (oa (sc_ C142) (o1 c143 (o1 (decide_eq_true c144) (o1 (decide_eq_true c145) (o1 c144 (o1 c145 on)))))) (by kernel_rfl)
      · replace h := (if_neg c145).symm.trans h
        cases h
        exact byRet MX Tryz.func146 1000 [.call C142, .dec 7 true, .dec 11 true, .dec 18 false, .fin] (oa (sc_ C142) (o1 c143 (o1 (decide_eq_true c144) (o1 (decide_eq_false c145) on)))) (by kernel_rfl)
    · replace h := (if_neg c144).symm.trans h
      cases h
      exact byRet MX Tryz.func146 1000 [.call C142, .dec 7 true, .dec 11 false, .fin] (oa (sc_ C142) (o1 c143 (o1 (decide_eq_false c144) on))) (by kernel_rfl)
  · replace h := (if_neg c143).symm.trans h
    cases h
    exact byRet MX Tryz.func146 1000 [.call C142, .dec 7 false, .fin] (oa (sc_ C142) (o1 (eqf c143) on)) (by kernel_rfl)

/-! ### spec_HolderOf: function 52 -/
def spec_HolderOf.h0T (a0 : List S69) (a1 : Int) (v66 : Int) : List (Nat × AV) := [(0, .t (.c (.p false (R 4 e69 z69 a0)))), (1, .t (.c (.p false (.sc (.int .i64 a1))))), (5, .t (.c (.p true (.sc (.int .i64 v66)))))]
def spec_HolderOf.h0H (a0 : List S69) (a1 : Int) (v66 : Int) : List (Nat × Content) := []
def spec_HolderOf.l0 : Nat → List S69 → Int → Int → Option Int
  | 0, _, _, _ => none
  | kq + 1, a0, a1, v66 => if v66 < (a0.length : Int) then (if 0 ≤ a1 then (if 0 ≤ v66 then (if (rdD z69 a0 v66).f1 = a1 then (some ((rdD z69 a0 v66).f0)) else (if (rdD z69 a0 v66).f2 = a1 then (some ((rdD z69 a0 v66).f0)) else (spec_HolderOf.l0 kq a0 a1 (w64 (v66 + 1))))) else none) else (some (-1))) else (some (-1))
def spec_HolderOf.f (k : Nat) (a0 : List S69) (a1 : Int) : Option Int := spec_HolderOf.l0 k a0 a1 0
theorem spec_HolderOf.go : Callable Tryz.prog 52 := ⟨_, Tryz.func52, by kernel_rfl, rfl⟩
theorem spec_HolderOf.ok (k : Nat) (a0 : List S69) (a1 : Int) (r : Int) (h : spec_HolderOf.f k a0 a1 = some r) : VCalls Tryz.prog 52 [.c (R 4 e69 z69 a0), .c (.sc (.int .i64 a1))] [.c (.p (.sc (.int .i64 r)))] := by
  unfold spec_HolderOf.f at h
  refine VCalls.of (fn := Tryz.f52) (N := 37) Tryz.func52 rfl rfl (fun w0 => ?_)
  have H0 : ∀ (kq : Nat) (v66 : Int), spec_HolderOf.l0 kq a0 a1 v66 = some r → AG Tryz.prog 52 37 [.c (.p (.sc (.int .i64 r)))] w0 (headStk (codeOf Tryz.f52) 0) (mkFS (spec_HolderOf.h0T a0 a1 v66) (spec_HolderOf.h0H a0 a1 v66)) := by
    intro kq
    induction kq with
    | zero => intro v66 h; cases h
    | succ kq ih =>
      intro v66 h
      rw [spec_HolderOf.l0] at h
      by_cases c154 : v66 < (a0.length : Int)
      · replace h := (if_pos c154).symm.trans h
        by_cases c155 : 0 ≤ a1
        · replace h := (if_pos c155).symm.trans h
          obtain ⟨c156, h⟩ := ifN h
          by_cases c157 : (rdD z69 a0 v66).f1 = a1
          · replace h := (if_pos c157).symm.trans h
            cases h
            exact byRet MX Tryz.func52 1000 [.dec 10 true, .b true, .dec 23 true, .b true, .fin] (o1 (decide_eq_true c154) (o1 (decide_eq_true c155) (o1 c156 (o1 c154 (o1 (decide_eq_true c157) (o1 (rfl : true = true) (o1 c156 (o1 c154 on)))))))) (by kernel_rfl)
          · replace h := (if_neg c157).symm.trans h
            by_cases c158 : (rdD z69 a0 v66).f2 = a1
            · replace h := (if_pos c158).symm.trans h
              cases h
              exact byRet MX Tryz.func52 1000 [.dec 10 true, .b true, .dec 23 false, .b true, .fin] (o1 (decide_eq_true c154) (o1 (decide_eq_true c155) (o1 c156 (o1 c154 (o1 (decide_eq_false c157) (o1 c156 (o1 c154 (o1 (decide_eq_true c158) (o1 c156 (o1 c154 on)))))))))) (by kernel_rfl)
            · replace h := (if_neg c158).symm.trans h
              exact byHead MX Tryz.func52 1000 [.dec 10 true, .b true, .dec 23 false, .b false, .fin] (o1 (decide_eq_true c154) (o1 (decide_eq_true c155) (o1 c156 (o1 c154 (o1 (decide_eq_false c157) (o1 c156 (o1 c154 (o1 (decide_eq_false c158) on)))))))) (ih (w64 (v66 + 1)) h) (by kernel_rfl)
        · replace h := (if_neg c155).symm.trans h
          cases h
          exact byRet MX Tryz.func52 1000 [.dec 10 true, .b false, .fin, .fin] (o1 (decide_eq_true c154) (o1 (decide_eq_false c155) on)) (by kernel_rfl)
      · replace h := (if_neg c154).symm.trans h
        cases h
        exact byRet MX Tryz.func52 1000 [.dec 10 false, .b false, .fin, .fin] (o1 (decide_eq_false c154) (o1 (rfl : false = false) on)) (by kernel_rfl)
  exact byHead MX Tryz.func52 1000 [.fin] on (H0 k 0 h) (by kernel_rfl)

/-! ### spec_SpotOf: function 233 -/
def spec_SpotOf.f (k : Nat) (a0 : S38) (a1 : Int) : Option (Int × Int) := (spec_GridOk.f k a0).bind fun t75 => if t75 = true then (if a1 < 0 then (some ((-1), (-1))) else (if (a0.f2.size : Int) ≤ a1 then (some ((-1), (-1))) else (if a0.f0 ≠ 0 then (some ((a1.tmod a0.f0), (w64 (a1.tdiv a0.f0)))) else none))) else (some ((-1), (-1)))
theorem spec_SpotOf.go : Callable Tryz.prog 233 := ⟨_, Tryz.func233, by kernel_rfl, rfl⟩
theorem spec_SpotOf.ok (k : Nat) (a0 : S38) (a1 : Int) (r : Int × Int) (h : spec_SpotOf.f k a0 a1 = some r) : VCalls Tryz.prog 233 [.agg (e38 a0), .c (.sc (.int .i64 a1))] [.c (.p (.sc (.int .i64 r.1))), .c (.p (.sc (.int .i64 r.2)))] := by
  unfold spec_SpotOf.f at h
  refine VCalls.of (fn := Tryz.f233) (N := 28) Tryz.func233 rfl rfl (fun w0 => ?_)
  obtain ⟨t75, g181, h⟩ := bindN h
  let C181 := mkCon (spec_GridOk.ok k a0 t75 g181) spec_GridOk.go
  by_cases c182 : t75 = true
  · replace h := (if_pos c182).symm.trans h
    by_cases c183 : a1 < 0
    · replace h := (if_pos c183).symm.trans h
      cases h
      exact byRet MX Tryz.func233 1000 [.call C181, .dec 9 false, .dec 13 true, .b true, .fin] (oa (sc_ C181) (o1 (bnf c182) (o1 (decide_eq_true c183) (o1 (rfl : true = true) on)))) (by kernel_rfl)
    · replace h := (if_neg c183).symm.trans h
      by_cases c184 : (a0.f2.size : Int) ≤ a1
      · replace h := (if_pos c184).symm.trans h
        cases h
        exact byRet MX Tryz.func233 1000 [.call C181, .dec 9 false, .dec 13 false, .b true, .fin] (oa (sc_ C181) (o1 (bnf c182) (o1 (decide_eq_false c183) (o1 (decide_eq_true c184) on)))) (by kernel_rfl)
      · replace h := (if_neg c184).symm.trans h
        obtain ⟨c185, h⟩ := ifN h
        cases h
        exact byRet MX Tryz.func233 1000 [.call C181, .dec 9 false, .dec 13 false, .b false, .fin] (oa (sc_ C181) (o1 (bnf c182) (o1 (decide_eq_false c183) (o1 (decide_eq_false c184) (o1 c185 (o1 c185 on)))))) (by kernel_rfl)
  · replace h := (if_neg c182).symm.trans h
    cases h
    exact byRet MX Tryz.func233 1000 [.call C181, .dec 9 true, .b true, .fin] (oa (sc_ C181) (o1 (bnt (eqf c182)) (o1 (rfl : true = true) on))) (by kernel_rfl)

/-! ### spec_CellAt: function 234 -/
def spec_CellAt.f (k : Nat) (a0 : S38) (a1 : Int) (a2 : Int) : Option Int := (spec_GridOk.f k a0).bind fun t77 => if t77 = true then ((spec_l01In.f a1 0 (w64 (a0.f0 - 1))).bind fun t78 => if t78 = true then ((spec_l01In.f a2 0 (w64 (a0.f1 - 1))).bind fun t79 => if t79 = true then (some (w64 ((w64 (a2 * a0.f0)) + a1))) else (some (-1))) else (some (-1))) else (some (-1))
theorem spec_CellAt.go : Callable Tryz.prog 234 := ⟨_, Tryz.func234, by kernel_rfl, rfl⟩
theorem spec_CellAt.ok (k : Nat) (a0 : S38) (a1 : Int) (a2 : Int) (r : Int) (h : spec_CellAt.f k a0 a1 a2 = some r) : VCalls Tryz.prog 234 [.agg (e38 a0), .c (.sc (.int .i64 a1)), .c (.sc (.int .i64 a2))] [.c (.p (.sc (.int .i64 r)))] := by
  unfold spec_CellAt.f at h
  refine VCalls.of (fn := Tryz.f234) (N := 32) Tryz.func234 rfl rfl (fun w0 => ?_)
  obtain ⟨t77, g187, h⟩ := bindN h
  let C187 := mkCon (spec_GridOk.ok k a0 t77 g187) spec_GridOk.go
  by_cases c188 : t77 = true
  · replace h := (if_pos c188).symm.trans h
    obtain ⟨t78, g189, h⟩ := bindN h
    let C189 := mkCon (spec_l01In.ok a1 0 (w64 (a0.f0 - 1)) t78 g189) spec_l01In.go
    by_cases c190 : t78 = true
    · replace h := (if_pos c190).symm.trans h
      obtain ⟨t79, g191, h⟩ := bindN h
      let C191 := mkCon (spec_l01In.ok a2 0 (w64 (a0.f1 - 1)) t79 g191) spec_l01In.go
      by_cases c192 : t79 = true
      · replace h := (if_pos c192).symm.trans h
        cases h
        exact byRet MX Tryz.func234 1000 [.call C187, .dec 10 false, .call C189, .dec 18 false, .call C191, .b false, .fin] (oa (sc_ C187) (o1 (bnf c188) (oa (sc_ C189) (o1 (bnf c190) (oa (sc_ C191) (o1 (bnf c192) on)))))) (by kernel_rfl)
      · replace h := (if_neg c192).symm.trans h
        cases h
        exact byRet MX Tryz.func234 1000 [.call C187, .dec 10 false, .call C189, .dec 18 false, .call C191, .b true, .fin] (oa (sc_ C187) (o1 (bnf c188) (oa (sc_ C189) (o1 (bnf c190) (oa (sc_ C191) (o1 (bnt (eqf c192)) on)))))) (by kernel_rfl)
    · replace h := (if_neg c190).symm.trans h
      cases h
      exact byRet MX Tryz.func234 1000 [.call C187, .dec 10 false, .call C189, .dec 18 true, .b true, .fin] (oa (sc_ C187) (o1 (bnf c188) (oa (sc_ C189) (o1 (bnt (eqf c190)) (o1 (rfl : true = true) on))))) (by kernel_rfl)
  · replace h := (if_neg c188).symm.trans h
    cases h
    exact byRet MX Tryz.func234 1000 [.call C187, .dec 10 true, .b true, .fin] (oa (sc_ C187) (o1 (bnt (eqf c188)) (o1 (rfl : true = true) on))) (by kernel_rfl)
end Go.Proofs.YtoaknaceaghclaaGreat.V
