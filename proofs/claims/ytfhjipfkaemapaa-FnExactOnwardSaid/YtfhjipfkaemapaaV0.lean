/- What each Go function computes, and that the machine does so: printed by a program of this session (avgen.py). -/
import Derived.Test.YtfhjipfkaemapaaVT
namespace Go.Proofs.Ytfhjipfkaemapaa.V
open Go Go.Av Go.Proofs Go.Proofs.Try
set_option linter.unusedVariables false
set_option maxRecDepth 100000
/-! ### laws_szGrid: function 46 -/
def laws_szGrid.f (a0 : S23) (a1 : Int) : Option Int := if (w64 (a1 - (a0.f2.size : Int))) < 0 then (some (-1)) else (some (w64 (a1 - (a0.f2.size : Int))))
theorem laws_szGrid.go : Callable prog 46 := ⟨_, func46, by kernel_rfl, rfl⟩
theorem laws_szGrid.ok (a0 : S23) (a1 : Int) (r : Int) (h : laws_szGrid.f a0 a1 = some r) : VCalls prog 46 [.agg (e23 a0), .c (iI a1)] [.c (.p (iI r))] := by
  unfold laws_szGrid.f at h
  refine VCalls.of (fn := f46) (N := 13) func46 rfl rfl (fun w0 => ?_)
  by_cases c1 : (w64 (a1 - (a0.f2.size : Int))) < 0
  · replace h := ip c1 h
    cases h
    exact rt func46 [.b true, .fin] (oT c1 on)
  · replace h := iq c1 h
    cases h
    exact rt func46 [.b false, .fin] (oF c1 on)

/-! ### laws_szSetup: function 11 -/
def laws_szSetup.f (a0 : S25) (a1 : Int) : Option Int := (laws_szGrid.f a0.f0 a1).bind fun t1 => if t1 < 0 then (some (-1)) else (some t1)
theorem laws_szSetup.go : Callable prog 11 := ⟨_, func11, by kernel_rfl, rfl⟩
theorem laws_szSetup.ok (a0 : S25) (a1 : Int) (r : Int) (h : laws_szSetup.f a0 a1 = some r) : VCalls prog 11 [.agg (e25 a0), .c (iI a1)] [.c (.p (iI r))] := by
  unfold laws_szSetup.f at h
  refine VCalls.of (fn := f11) (N := 12) func11 rfl rfl (fun w0 => ?_)
  obtain ⟨t1, g1, h⟩ := bindN h
  let C1 := mkCon (laws_szGrid.ok a0.f0 a1 t1 g1) laws_szGrid.go
  by_cases c2 : t1 < 0
  · replace h := ip c2 h
    cases h
    exact rt func11 [.call C1, .b true, .fin] (oc C1 (oT c2 on))
  · replace h := iq c2 h
    cases h
    exact rt func11 [.call C1, .b false, .fin] (oc C1 (oF c2 on))

/-! ### laws_szRobotS: function 12 -/
def laws_szRobotS.f (a0 : List S92) (a1 : Int) : Option Int := if (w64 (a1 - (a0.length : Int))) < 0 then (some (-1)) else (some (w64 (a1 - (a0.length : Int))))
theorem laws_szRobotS.go : Callable prog 12 := ⟨_, func12, by kernel_rfl, rfl⟩
theorem laws_szRobotS.ok (a0 : List S92) (a1 : Int) (r : Int) (h : laws_szRobotS.f a0 a1 = some r) : VCalls prog 12 [.c (R 4 e92 z92 a0), .c (iI a1)] [.c (.p (iI r))] := by
  unfold laws_szRobotS.f at h
  refine VCalls.of (fn := f12) (N := 12) func12 rfl rfl (fun w0 => ?_)
  by_cases c1 : (w64 (a1 - (a0.length : Int))) < 0
  · replace h := ip c1 h
    cases h
    exact rt func12 [.b true, .fin] (oT c1 on)
  · replace h := iq c1 h
    cases h
    exact rt func12 [.b false, .fin] (oF c1 on)

/-! ### laws_szIntS: function 16 -/
def laws_szIntS.f (a0 : List Int) (a1 : Int) : Option Int := if (w64 (a1 - (a0.length : Int))) < 0 then (some (-1)) else (some (w64 (a1 - (a0.length : Int))))
theorem laws_szIntS.go : Callable prog 16 := ⟨_, func16, by kernel_rfl, rfl⟩
theorem laws_szIntS.ok (a0 : List Int) (a1 : Int) (r : Int) (h : laws_szIntS.f a0 a1 = some r) : VCalls prog 16 [.c (R 1 (eI .i64) 0 a0), .c (iI a1)] [.c (.p (iI r))] := by
  unfold laws_szIntS.f at h
  refine VCalls.of (fn := f16) (N := 12) func16 rfl rfl (fun w0 => ?_)
  by_cases c1 : (w64 (a1 - (a0.length : Int))) < 0
  · replace h := ip c1 h
    cases h
    exact rt func16 [.b true, .fin] (oT c1 on)
  · replace h := iq c1 h
    cases h
    exact rt func16 [.b false, .fin] (oF c1 on)

/-! ### laws_szWindow: function 13 -/
def laws_szWindow.f (a0 : S29) (a1 : Int) : Option Int := (laws_szIntS.f a0.f2 a1).bind fun t1 => if t1 < 0 then (some (-1)) else (some t1)
theorem laws_szWindow.go : Callable prog 13 := ⟨_, func13, by kernel_rfl, rfl⟩
theorem laws_szWindow.ok (a0 : S29) (a1 : Int) (r : Int) (h : laws_szWindow.f a0 a1 = some r) : VCalls prog 13 [.agg (e29 a0), .c (iI a1)] [.c (.p (iI r))] := by
  unfold laws_szWindow.f at h
  refine VCalls.of (fn := f13) (N := 12) func13 rfl rfl (fun w0 => ?_)
  obtain ⟨t1, g1, h⟩ := bindN h
  let C1 := mkCon (laws_szIntS.ok a0.f2 a1 t1 g1) laws_szIntS.go
  by_cases c2 : t1 < 0
  · replace h := ip c2 h
    cases h
    exact rt func13 [.call C1, .b true, .fin] (oc C1 (oT c2 on))
  · replace h := iq c2 h
    cases h
    exact rt func13 [.call C1, .b false, .fin] (oc C1 (oF c2 on))

/-! ### laws_szWay: function 73 -/
def laws_szWay.f (a0 : S110) (a1 : Int) : Option Int := (laws_szIntS.f a0.f0 a1).bind fun t1 => if t1 < 0 then (some (-1)) else (some t1)
theorem laws_szWay.go : Callable prog 73 := ⟨_, func73, by kernel_rfl, rfl⟩
theorem laws_szWay.ok (a0 : S110) (a1 : Int) (r : Int) (h : laws_szWay.f a0 a1 = some r) : VCalls prog 73 [.agg (e110 a0), .c (iI a1)] [.c (.p (iI r))] := by
  unfold laws_szWay.f at h
  refine VCalls.of (fn := f73) (N := 12) func73 rfl rfl (fun w0 => ?_)
  obtain ⟨t1, g1, h⟩ := bindN h
  let C1 := mkCon (laws_szIntS.ok a0.f0 a1 t1 g1) laws_szIntS.go
  by_cases c2 : t1 < 0
  · replace h := ip c2 h
    cases h
    exact rt func73 [.call C1, .b true, .fin] (oc C1 (oT c2 on))
  · replace h := iq c2 h
    cases h
    exact rt func73 [.call C1, .b false, .fin] (oc C1 (oF c2 on))

/-! ### laws_szWayS: function 47 -/
def laws_szWayS.h0T (a0 : List S110) (v4 : Int) (v5 : Int) : List (Nat × AV) := [(0, .t (.c (.p false (R 1 e110 z110 a0)))), (1, .t (.c (.p true (iI v4)))), (5, .t (.c (.p true (iI v5))))]
def laws_szWayS.h0H (a0 : List S110) (v4 : Int) (v5 : Int) : List (Nat × Content) := []
def laws_szWayS.l0 : Nat → List S110 → Int → Int → Option Int
  | 0, _, _, _ => none
  | kq + 1, a0, v4, v5 => if v5 < (a0.length : Int) then (if 0 ≤ v5 then ((laws_szWay.f (rdD z110 a0 v5) v4).bind fun t6 => if t6 < 0 then (some (-1)) else (laws_szWayS.l0 kq a0 t6 (w64 (v5 + 1)))) else none) else (some v4)
def laws_szWayS.f (k : Nat) (a0 : List S110) (a1 : Int) : Option Int := if (w64 (a1 - (a0.length : Int))) < 0 then (some (-1)) else (laws_szWayS.l0 k a0 (w64 (a1 - (a0.length : Int))) 0)
theorem laws_szWayS.go : Callable prog 47 := ⟨_, func47, by kernel_rfl, rfl⟩
theorem laws_szWayS.ok (k : Nat) (a0 : List S110) (a1 : Int) (r : Int) (h : laws_szWayS.f k a0 a1 = some r) : VCalls prog 47 [.c (R 1 e110 z110 a0), .c (iI a1)] [.c (.p (iI r))] := by
  unfold laws_szWayS.f at h
  refine VCalls.of (fn := f47) (N := 27) func47 rfl rfl (fun w0 => ?_)
  by_cases c1 : (w64 (a1 - (a0.length : Int))) < 0
  · replace h := ip c1 h
    cases h
    exact rt func47 [.b true, .fin] (oT c1 on)
  · replace h := iq c1 h
    have H0 : ∀ (kq : Nat) (v4 : Int) (v5 : Int), laws_szWayS.l0 kq a0 v4 v5 = some r → AG prog 47 27 [.c (.p (iI r))] w0 (headStk (codeOf f47) 0) (mkFS (laws_szWayS.h0T a0 v4 v5) (laws_szWayS.h0H a0 v4 v5)) := by
      intro kq
      induction kq with
      | zero => intro v4 v5 h; cases h
      | succ kq ih =>
        intro v4 v5 h
        rw [laws_szWayS.l0] at h
        by_cases c8 : v5 < (a0.length : Int)
        · replace h := ip c8 h
          obtain ⟨c9, h⟩ := ifN h
          obtain ⟨t6, g10, h⟩ := bindN h
          let C10 := mkCon (laws_szWay.ok (rdD z110 a0 v5) v4 t6 g10) laws_szWay.go
          by_cases c11 : t6 < 0
          · replace h := ip c11 h
            cases h
            exact rt func47 [.b true, .call C10, .b true, .fin] (oT c8 (o1 c9 (o1 c8 (oc C10 (oT c11 on)))))
          · replace h := iq c11 h
            exact hd func47 [.b true, .call C10, .b false, .fin] (oT c8 (o1 c9 (o1 c8 (oc C10 (oF c11 on))))) (ih t6 (w64 (v5 + 1)) h)
        · replace h := iq c8 h
          cases h
          exact rt func47 [.b false, .fin, .fin] (oF c8 on)
    exact hd func47 [.b false, .fin] (oF c1 on) (H0 k (w64 (a1 - (a0.length : Int))) 0 h)

/-! ### laws_szPlan: function 14 -/
def laws_szPlan.f (k : Nat) (a0 : S32) (a1 : Int) : Option Int := (laws_szWayS.f k a0.f2 a1).bind fun t1 => if t1 < 0 then (some (-1)) else (some t1)
theorem laws_szPlan.go : Callable prog 14 := ⟨_, func14, by kernel_rfl, rfl⟩
theorem laws_szPlan.ok (k : Nat) (a0 : S32) (a1 : Int) (r : Int) (h : laws_szPlan.f k a0 a1 = some r) : VCalls prog 14 [.agg (e32 a0), .c (iI a1)] [.c (.p (iI r))] := by
  unfold laws_szPlan.f at h
  refine VCalls.of (fn := f14) (N := 12) func14 rfl rfl (fun w0 => ?_)
  obtain ⟨t1, g1, h⟩ := bindN h
  let C1 := mkCon (laws_szWayS.ok k a0.f2 a1 t1 g1) laws_szWayS.go
  by_cases c2 : t1 < 0
  · replace h := ip c2 h
    cases h
    exact rt func14 [.call C1, .b true, .fin] (oc C1 (oT c2 on))
  · replace h := iq c2 h
    cases h
    exact rt func14 [.call C1, .b false, .fin] (oc C1 (oF c2 on))

/-! ### laws_szJobS: function 15 -/
def laws_szJobS.f (a0 : List S95) (a1 : Int) : Option Int := if (w64 (a1 - (a0.length : Int))) < 0 then (some (-1)) else (some (w64 (a1 - (a0.length : Int))))
theorem laws_szJobS.go : Callable prog 15 := ⟨_, func15, by kernel_rfl, rfl⟩
theorem laws_szJobS.ok (a0 : List S95) (a1 : Int) (r : Int) (h : laws_szJobS.f a0 a1 = some r) : VCalls prog 15 [.c (R 3 e95 z95 a0), .c (iI a1)] [.c (.p (iI r))] := by
  unfold laws_szJobS.f at h
  refine VCalls.of (fn := f15) (N := 12) func15 rfl rfl (fun w0 => ?_)
  by_cases c1 : (w64 (a1 - (a0.length : Int))) < 0
  · replace h := ip c1 h
    cases h
    exact rt func15 [.b true, .fin] (oT c1 on)
  · replace h := iq c1 h
    cases h
    exact rt func15 [.b false, .fin] (oF c1 on)

/-! ### laws_szYard: function 4 -/
def laws_szYard.f (k : Nat) (a0 : S35) (a1 : Int) : Option Int := (laws_szSetup.f a0.f0 a1).bind fun t1 => if t1 < 0 then (some (-1)) else ((laws_szRobotS.f a0.f1 t1).bind fun t2 => if t2 < 0 then (some (-1)) else ((laws_szWindow.f a0.f2 t2).bind fun t3 => if t3 < 0 then (some (-1)) else ((laws_szPlan.f k a0.f5 t3).bind fun t4 => if t4 < 0 then (some (-1)) else ((laws_szJobS.f a0.f6 t4).bind fun t5 => if t5 < 0 then (some (-1)) else ((laws_szIntS.f a0.f7 t5).bind fun t6 => if t6 < 0 then (some (-1)) else (some t6))))))
theorem laws_szYard.go : Callable prog 4 := ⟨_, func4, by kernel_rfl, rfl⟩
theorem laws_szYard.ok (k : Nat) (a0 : S35) (a1 : Int) (r : Int) (h : laws_szYard.f k a0 a1 = some r) : VCalls prog 4 [.agg (e35 a0), .c (iI a1)] [.c (.p (iI r))] := by
  unfold laws_szYard.f at h
  refine VCalls.of (fn := f4) (N := 42) func4 rfl rfl (fun w0 => ?_)
  obtain ⟨t1, g1, h⟩ := bindN h
  let C1 := mkCon (laws_szSetup.ok a0.f0 a1 t1 g1) laws_szSetup.go
  by_cases c2 : t1 < 0
  · replace h := ip c2 h
    cases h
    exact rt func4 [.call C1, .b true, .fin] (oc C1 (oT c2 on))
  · replace h := iq c2 h
    obtain ⟨t2, g3, h⟩ := bindN h
    let C3 := mkCon (laws_szRobotS.ok a0.f1 t1 t2 g3) laws_szRobotS.go
    by_cases c4 : t2 < 0
    · replace h := ip c4 h
      cases h
      exact rt func4 [.call C1, .b false, .call C3, .b true, .fin] (oc C1 (oF c2 (oc C3 (oT c4 on))))
    · replace h := iq c4 h
      obtain ⟨t3, g5, h⟩ := bindN h
      let C5 := mkCon (laws_szWindow.ok a0.f2 t2 t3 g5) laws_szWindow.go
      by_cases c6 : t3 < 0
      · replace h := ip c6 h
        cases h
        exact rt func4 [.call C1, .b false, .call C3, .b false, .call C5, .b true, .fin] (oc C1 (oF c2 (oc C3 (oF c4 (oc C5 (oT c6 on))))))
      · replace h := iq c6 h
        obtain ⟨t4, g7, h⟩ := bindN h
        let C7 := mkCon (laws_szPlan.ok k a0.f5 t3 t4 g7) laws_szPlan.go
        by_cases c8 : t4 < 0
        · replace h := ip c8 h
          cases h
          exact rt func4 [.call C1, .b false, .call C3, .b false, .call C5, .b false, .call C7, .b true, .fin] (oc C1 (oF c2 (oc C3 (oF c4 (oc C5 (oF c6 (oc C7 (oT c8 on))))))))
        · replace h := iq c8 h
          obtain ⟨t5, g9, h⟩ := bindN h
          let C9 := mkCon (laws_szJobS.ok a0.f6 t4 t5 g9) laws_szJobS.go
          by_cases c10 : t5 < 0
          · replace h := ip c10 h
            cases h
            exact rt func4 [.call C1, .b false, .call C3, .b false, .call C5, .b false, .call C7, .b false, .call C9, .b true, .fin] (oc C1 (oF c2 (oc C3 (oF c4 (oc C5 (oF c6 (oc C7 (oF c8 (oc C9 (oT c10 on))))))))))
          · replace h := iq c10 h
            obtain ⟨t6, g11, h⟩ := bindN h
            let C11 := mkCon (laws_szIntS.ok a0.f7 t5 t6 g11) laws_szIntS.go
            by_cases c12 : t6 < 0
            · replace h := ip c12 h
              cases h
              exact rt func4 [.call C1, .b false, .call C3, .b false, .call C5, .b false, .call C7, .b false, .call C9, .b false, .call C11, .b true, .fin] (oc C1 (oF c2 (oc C3 (oF c4 (oc C5 (oF c6 (oc C7 (oF c8 (oc C9 (oF c10 (oc C11 (oT c12 on))))))))))))
            · replace h := iq c12 h
              cases h
              exact rt func4 [.call C1, .b false, .call C3, .b false, .call C5, .b false, .call C7, .b false, .call C9, .b false, .call C11, .b false, .fin] (oc C1 (oF c2 (oc C3 (oF c4 (oc C5 (oF c6 (oc C7 (oF c8 (oc C9 (oF c10 (oc C11 (oF c12 on))))))))))))

/-! ### laws_toGrid: function 52 -/
def laws_toGrid.f (a0 : S23) : Option S37 := some (⟨a0.f0, a0.f1, a0.f2⟩ : S37)
theorem laws_toGrid.go : Callable prog 52 := ⟨_, func52, by kernel_rfl, rfl⟩
theorem laws_toGrid.ok (a0 : S23) (r : S37) (h : laws_toGrid.f a0 = some r) : VCalls prog 52 [.agg (e23 a0)] [.agg (r37 r)] := by
  unfold laws_toGrid.f at h
  refine VCalls.of (fn := f52) (N := 14) func52 rfl rfl (fun w0 => ?_)
  cases h
  exact rt func52 [.fin] on

/-! ### laws_toSetup: function 20 -/
def laws_toSetup.f (a0 : S25) : Option S39 := (laws_toGrid.f a0.f0).bind fun t1 => some (⟨t1, a0.f1, a0.f2, a0.f3, a0.f4⟩ : S39)
theorem laws_toSetup.go : Callable prog 20 := ⟨_, func20, by kernel_rfl, rfl⟩
theorem laws_toSetup.ok (a0 : S25) (r : S39) (h : laws_toSetup.f a0 = some r) : VCalls prog 20 [.agg (e25 a0)] [.agg (r39 r)] := by
  unfold laws_toSetup.f at h
  refine VCalls.of (fn := f20) (N := 21) func20 rfl rfl (fun w0 => ?_)
  obtain ⟨t1, g1, h⟩ := bindN h
  let C1 := mkCon (laws_toGrid.ok a0.f0 t1 g1) laws_toGrid.go
  cases h
  exact rt func20 [.call C1, .fin] (oc C1 on)

/-! ### laws_toRobot: function 53 -/
def laws_toRobot.f (a0 : S92) : Option S90 := some (⟨a0.f0, a0.f1, a0.f2, a0.f3⟩ : S90)
theorem laws_toRobot.go : Callable prog 53 := ⟨_, func53, by kernel_rfl, rfl⟩
theorem laws_toRobot.ok (a0 : S92) (r : S90) (h : laws_toRobot.f a0 = some r) : VCalls prog 53 [.agg (e92 a0)] [.agg (r90 r)] := by
  unfold laws_toRobot.f at h
  refine VCalls.of (fn := f53) (N := 17) func53 rfl rfl (fun w0 => ?_)
  cases h
  exact rt func53 [.fin] on

/-! ### laws_toRobotS: function 21 -/
def laws_toRobotS.h0T (a0 : List S92) (v5 : Int) (v4 : List S90) : List (Nat × AV) := [(0, .t (.c (.p false (R 4 e92 z92 a0)))), (3, .t (.c (.h 448))), (4, .t (.c (.p true (iI v5))))]
def laws_toRobotS.h0H (a0 : List S92) (v5 : Int) (v4 : List S90) : List (Nat × Content) := [(448, .row 90 4 v4.length (fun j => e90 (v4.getD j z90)) true)]
def laws_toRobotS.l0 : Nat → List S92 → List S90 → Int → Option (List S90)
  | 0, _, _, _ => none
  | kq + 1, a0, v4, v5 => if v5 < (a0.length : Int) then (if 0 ≤ v5 then ((laws_toRobot.f (rdD z92 a0 v5)).bind fun t6 => if v5 < (v4.length : Int) then (laws_toRobotS.l0 kq a0 (v4.set v5.toNat t6) (w64 (v5 + 1))) else none) else none) else (some v4)
def laws_toRobotS.f (k : Nat) (a0 : List S92) : Option (List S90) := if 0 ≤ (a0.length : Int) then (if (a0.length : Int).toNat * 32 ≤ 140737488355328 then (laws_toRobotS.l0 k a0 (List.replicate (a0.length : Int).toNat z90) 0) else none) else none
theorem laws_toRobotS.go : Callable prog 21 := ⟨_, func21, by kernel_rfl, rfl⟩
theorem laws_toRobotS.ok (k : Nat) (a0 : List S92) (r : (List S90)) (h : laws_toRobotS.f k a0 = some r) : VCalls prog 21 [.c (R 4 e92 z92 a0)] [.c (.own 90 4 r.length (fun j => e90 (r.getD j z90)))] := by
  unfold laws_toRobotS.f at h
  refine VCalls.of (fn := f21) (N := 23) func21 rfl rfl (fun w0 => ?_)
  obtain ⟨c1, h⟩ := ifN h
  obtain ⟨c2, h⟩ := ifN h
  have H0 : ∀ (kq : Nat) (v4 : List S90) (v5 : Int), laws_toRobotS.l0 kq a0 v4 v5 = some r → AG prog 21 23 [.c (.own 90 4 r.length (fun j => e90 (r.getD j z90)))] w0 (headStk (codeOf f21) 0) (mkFS (laws_toRobotS.h0T a0 v5 v4) (laws_toRobotS.h0H a0 v5 v4)) := by
    intro kq
    induction kq with
    | zero => intro v4 v5 h; cases h
    | succ kq ih =>
      intro v4 v5 h
      rw [laws_toRobotS.l0] at h
      by_cases c10 : v5 < (a0.length : Int)
      · replace h := ip c10 h
        obtain ⟨c11, h⟩ := ifN h
        obtain ⟨t6, g12, h⟩ := bindN h
        let C12 := mkCon (laws_toRobot.ok (rdD z92 a0 v5) t6 g12) laws_toRobot.go
        obtain ⟨c13, h⟩ := ifN h
        exact hd func21 [.b true, .call C12, .aft 999999, orow 448 e90 z90 (v4.set v5.toNat t6), .fin] (oT c10 (o1 c11 (o1 c10 (oc C12 (o1 c11 (o1 c13 (o1 (GE.set (e := e90) (d := z90) v4 v5.toNat t6 (lt_toNat c11 c13) rfl) on))))))) (ih (v4.set v5.toNat t6) (w64 (v5 + 1)) h)
      · replace h := iq c10 h
        cases h
        exact rt func21 [.b false, .fin, .fin] (oF c10 on)
  exact hd func21 [rowe 7 e90 z90 (List.replicate (a0.length : Int).toNat z90), .fin] (o1 (rfl : (a0.length : Int) = (a0.length : Int)) (o1 c1 (o1 (mxl (b := 32) (by decide) c2) (o1 c2 (o1 (GE.rep (e := e90) (d := z90) (a0.length : Int).toNat (CE.refl _)) on))))) (H0 k (List.replicate (a0.length : Int).toNat z90) 0 h)

/-! ### laws_toIntS: function 25 -/
def laws_toIntS.h0T (a0 : List Int) (v3 : Int) (v2 : List Int) : List (Nat × AV) := [(0, .t (.c (.p false (R 1 (eI .i64) 0 a0)))), (3, .t (.c (.h 448))), (4, .t (.c (.p true (iI v3))))]
def laws_toIntS.h0H (a0 : List Int) (v3 : Int) (v2 : List Int) : List (Nat × Content) := [(448, .row 3 1 v2.length (fun j => (eI .i64) (v2.getD j 0)) true)]
def laws_toIntS.l0 : Nat → List Int → List Int → Int → Option (List Int)
  | 0, _, _, _ => none
  | kq + 1, a0, v2, v3 => if v3 < (a0.length : Int) then (if 0 ≤ v3 then (if v3 < (v2.length : Int) then (laws_toIntS.l0 kq a0 (v2.set v3.toNat (rdD 0 a0 v3)) (w64 (v3 + 1))) else none) else none) else (some v2)
def laws_toIntS.f (k : Nat) (a0 : List Int) : Option (List Int) := if 0 ≤ (a0.length : Int) then (if (a0.length : Int).toNat * 8 ≤ 140737488355328 then (laws_toIntS.l0 k a0 (List.replicate (a0.length : Int).toNat 0) 0) else none) else none
theorem laws_toIntS.go : Callable prog 25 := ⟨_, func25, by kernel_rfl, rfl⟩
theorem laws_toIntS.ok (k : Nat) (a0 : List Int) (r : (List Int)) (h : laws_toIntS.f k a0 = some r) : VCalls prog 25 [.c (R 1 (eI .i64) 0 a0)] [.c (.own 3 1 r.length (fun j => (eI .i64) (r.getD j 0)))] := by
  unfold laws_toIntS.f at h
  refine VCalls.of (fn := f25) (N := 22) func25 rfl rfl (fun w0 => ?_)
  obtain ⟨c1, h⟩ := ifN h
  obtain ⟨c2, h⟩ := ifN h
  have H0 : ∀ (kq : Nat) (v2 : List Int) (v3 : Int), laws_toIntS.l0 kq a0 v2 v3 = some r → AG prog 25 22 [.c (.own 3 1 r.length (fun j => (eI .i64) (r.getD j 0)))] w0 (headStk (codeOf f25) 0) (mkFS (laws_toIntS.h0T a0 v3 v2) (laws_toIntS.h0H a0 v3 v2)) := by
    intro kq
    induction kq with
    | zero => intro v2 v3 h; cases h
    | succ kq ih =>
      intro v2 v3 h
      rw [laws_toIntS.l0] at h
      by_cases c8 : v3 < (a0.length : Int)
      · replace h := ip c8 h
        obtain ⟨c9, h⟩ := ifN h
        obtain ⟨c10, h⟩ := ifN h
        exact hd func25 [.b true, .aft 999999, orow 448 (eI .i64) 0 (v2.set v3.toNat (rdD 0 a0 v3)), .fin] (oT c8 (o1 c9 (o1 c8 (o1 c9 (o1 c10 (o1 (GE.set (e := (eI .i64)) (d := 0) v2 v3.toNat (rdD 0 a0 v3) (lt_toNat c9 c10) rfl) on)))))) (ih (v2.set v3.toNat (rdD 0 a0 v3)) (w64 (v3 + 1)) h)
      · replace h := iq c8 h
        cases h
        exact rt func25 [.b false, .fin, .fin] (oF c8 on)
  exact hd func25 [rowe 7 (eI .i64) 0 (List.replicate (a0.length : Int).toNat 0), .fin] (o1 (rfl : (a0.length : Int) = (a0.length : Int)) (o1 c1 (o1 (mxl (b := 8) (by decide) c2) (o1 c2 (o1 (GE.rep (e := (eI .i64)) (d := 0) (a0.length : Int).toNat (CE.refl _)) on))))) (H0 k (List.replicate (a0.length : Int).toNat 0) 0 h)

/-! ### laws_toWindow: function 22 -/
def laws_toWindow.f (k : Nat) (a0 : S29) : Option S41 := (laws_toIntS.f k a0.f2).bind fun t1 => some (⟨a0.f0, a0.f1, t1⟩ : S41)
theorem laws_toWindow.go : Callable prog 22 := ⟨_, func22, by kernel_rfl, rfl⟩
theorem laws_toWindow.ok (k : Nat) (a0 : S29) (r : S41) (h : laws_toWindow.f k a0 = some r) : VCalls prog 22 [.agg (e29 a0)] [.agg (r41 r)] := by
  unfold laws_toWindow.f at h
  refine VCalls.of (fn := f22) (N := 15) func22 rfl rfl (fun w0 => ?_)
  obtain ⟨t1, g1, h⟩ := bindN h
  let C1 := mkCon (laws_toIntS.ok k a0.f2 t1 g1) laws_toIntS.go
  cases h
  exact rt func22 [.call C1, .fin] (oc C1 on)

/-! ### laws_toWay: function 75 -/
def laws_toWay.f (k : Nat) (a0 : S110) : Option S64 := (laws_toIntS.f k a0.f0).bind fun t1 => some (⟨t1⟩ : S64)
theorem laws_toWay.go : Callable prog 75 := ⟨_, func75, by kernel_rfl, rfl⟩
theorem laws_toWay.ok (k : Nat) (a0 : S110) (r : S64) (h : laws_toWay.f k a0 = some r) : VCalls prog 75 [.agg (e110 a0)] [.agg (r64 r)] := by
  unfold laws_toWay.f at h
  refine VCalls.of (fn := f75) (N := 9) func75 rfl rfl (fun w0 => ?_)
  obtain ⟨t1, g1, h⟩ := bindN h
  let C1 := mkCon (laws_toIntS.ok k a0.f0 t1 g1) laws_toIntS.go
  cases h
  exact rt func75 [.call C1, .fin] (oc C1 on)

/-! ### laws_toWayS: function 54 -/
def laws_toWayS.h0T (a0 : List S110) (v5 : Int) (v4 : List S64) : List (Nat × AV) := [(0, .t (.c (.p false (R 1 e110 z110 a0)))), (3, .t (.c (.hn 448))), (4, .t (.c (.p true (iI v5))))]
def laws_toWayS.h0H (a0 : List S110) (v5 : Int) (v4 : List S64) : List (Nat × Content) := [(448, NC 64 3 S64.f0 (Value.int .i64) z64 0 v4)]
def laws_toWayS.l0 : Nat → List S110 → List S64 → Int → Option (List S64)
  | 0, _, _, _ => none
  | kq + 1, a0, v4, v5 => if v5 < (a0.length : Int) then (if 0 ≤ v5 then ((laws_toWay.f kq (rdD z110 a0 v5)).bind fun t6 => if v5 < (v4.length : Int) then (laws_toWayS.l0 kq a0 (v4.set v5.toNat t6) (w64 (v5 + 1))) else none) else none) else (some v4)
def laws_toWayS.f (k : Nat) (a0 : List S110) : Option (List S64) := if 0 ≤ (a0.length : Int) then (if (a0.length : Int).toNat * 24 ≤ 140737488355328 then (laws_toWayS.l0 k a0 (List.replicate (a0.length : Int).toNat z64) 0) else none) else none
theorem laws_toWayS.go : Callable prog 54 := ⟨_, func54, by kernel_rfl, rfl⟩
theorem laws_toWayS.ok (k : Nat) (a0 : List S110) (r : (List S64)) (h : laws_toWayS.f k a0 = some r) : VCalls prog 54 [.c (R 1 e110 z110 a0)] [.c (NR 64 3 S64.f0 (Value.int .i64) z64 0 r)] := by
  unfold laws_toWayS.f at h
  refine VCalls.of (fn := f54) (N := 23) func54 rfl rfl (fun w0 => ?_)
  obtain ⟨c1, h⟩ := ifN h
  obtain ⟨c2, h⟩ := ifN h
  have H0 : ∀ (kq : Nat) (v4 : List S64) (v5 : Int), laws_toWayS.l0 kq a0 v4 v5 = some r → AG prog 54 23 [.c (NR 64 3 S64.f0 (Value.int .i64) z64 0 r)] w0 (headStk (codeOf f54) 0) (mkFS (laws_toWayS.h0T a0 v5 v4) (laws_toWayS.h0H a0 v5 v4)) := by
    intro kq
    induction kq with
    | zero => intro v4 v5 h; cases h
    | succ kq ih =>
      intro v4 v5 h
      rw [laws_toWayS.l0] at h
      by_cases c10 : v5 < (a0.length : Int)
      · replace h := ip c10 h
        obtain ⟨c11, h⟩ := ifN h
        obtain ⟨t6, g12, h⟩ := bindN h
        let C12 := mkCon (laws_toWay.ok kq (rdD z110 a0 v5) t6 g12) laws_toWay.go
        obtain ⟨c13, h⟩ := ifN h
        exact hd func54 [.b true, .call C12, .aft 999999, nrow 448 S64.f0 (Value.int .i64) z64 0 (v4.set v5.toNat t6), .fin] (oT c10 (o1 c11 (o1 c10 (oc C12 (o1 c11 (o1 c13 (o1 (SC.of (e := (eI .i64)) (d := 0) t6.f0 (by intro x; rfl)) (o1 (GEN.set S64.f0 (Value.int .i64) z64 0 v4 v5.toNat t6 (lt_toNat c11 c13) rfl (fun _ => rfl)) on)))))))) (ih (v4.set v5.toNat t6) (w64 (v5 + 1)) h)
      · replace h := iq c10 h
        cases h
        exact rt func54 [.b false, .fin, .fin] (oF c10 on)
  exact hd func54 [.aft 7, .toN 448 3, nrow 448 S64.f0 (Value.int .i64) z64 0 (List.replicate (a0.length : Int).toNat z64), .fin] (o1 (rfl : (a0.length : Int) = (a0.length : Int)) (o1 c1 (o1 (mxl (b := 24) (by decide) c2) (o1 c2 (o1 (nilG.z (a0.length : Int).toNat) (o1 (GEN.rep S64.f0 (Value.int .i64) z64 0 (a0.length : Int).toNat rfl) on)))))) (H0 k (List.replicate (a0.length : Int).toNat z64) 0 h)

/-! ### laws_toPlan: function 23 -/
def laws_toPlan.f (k : Nat) (a0 : S32) : Option S44 := (laws_toWayS.f k a0.f2).bind fun t1 => some (⟨a0.f0, a0.f1, t1⟩ : S44)
theorem laws_toPlan.go : Callable prog 23 := ⟨_, func23, by kernel_rfl, rfl⟩
theorem laws_toPlan.ok (k : Nat) (a0 : S32) (r : S44) (h : laws_toPlan.f k a0 = some r) : VCalls prog 23 [.agg (e32 a0)] [.agg (rn44 r)] := by
  unfold laws_toPlan.f at h
  refine VCalls.of (fn := f23) (N := 15) func23 rfl rfl (fun w0 => ?_)
  obtain ⟨t1, g1, h⟩ := bindN h
  let C1 := mkCon (laws_toWayS.ok k a0.f2 t1 g1) laws_toWayS.go
  cases h
  exact rt func23 [.call C1, .fin] (oc C1 on)

/-! ### laws_toJob: function 55 -/
def laws_toJob.f (a0 : S95) : Option S62 := some (⟨a0.f0, a0.f1, a0.f2⟩ : S62)
theorem laws_toJob.go : Callable prog 55 := ⟨_, func55, by kernel_rfl, rfl⟩
theorem laws_toJob.ok (a0 : S95) (r : S62) (h : laws_toJob.f a0 = some r) : VCalls prog 55 [.agg (e95 a0)] [.agg (r62 r)] := by
  unfold laws_toJob.f at h
  refine VCalls.of (fn := f55) (N := 14) func55 rfl rfl (fun w0 => ?_)
  cases h
  exact rt func55 [.fin] on

/-! ### laws_toJobS: function 24 -/
def laws_toJobS.h0T (a0 : List S95) (v5 : Int) (v4 : List S62) : List (Nat × AV) := [(0, .t (.c (.p false (R 3 e95 z95 a0)))), (3, .t (.c (.h 448))), (4, .t (.c (.p true (iI v5))))]
def laws_toJobS.h0H (a0 : List S95) (v5 : Int) (v4 : List S62) : List (Nat × Content) := [(448, .row 62 3 v4.length (fun j => e62 (v4.getD j z62)) true)]
def laws_toJobS.l0 : Nat → List S95 → List S62 → Int → Option (List S62)
  | 0, _, _, _ => none
  | kq + 1, a0, v4, v5 => if v5 < (a0.length : Int) then (if 0 ≤ v5 then ((laws_toJob.f (rdD z95 a0 v5)).bind fun t6 => if v5 < (v4.length : Int) then (laws_toJobS.l0 kq a0 (v4.set v5.toNat t6) (w64 (v5 + 1))) else none) else none) else (some v4)
def laws_toJobS.f (k : Nat) (a0 : List S95) : Option (List S62) := if 0 ≤ (a0.length : Int) then (if (a0.length : Int).toNat * 24 ≤ 140737488355328 then (laws_toJobS.l0 k a0 (List.replicate (a0.length : Int).toNat z62) 0) else none) else none
theorem laws_toJobS.go : Callable prog 24 := ⟨_, func24, by kernel_rfl, rfl⟩
theorem laws_toJobS.ok (k : Nat) (a0 : List S95) (r : (List S62)) (h : laws_toJobS.f k a0 = some r) : VCalls prog 24 [.c (R 3 e95 z95 a0)] [.c (.own 62 3 r.length (fun j => e62 (r.getD j z62)))] := by
  unfold laws_toJobS.f at h
  refine VCalls.of (fn := f24) (N := 23) func24 rfl rfl (fun w0 => ?_)
  obtain ⟨c1, h⟩ := ifN h
  obtain ⟨c2, h⟩ := ifN h
  have H0 : ∀ (kq : Nat) (v4 : List S62) (v5 : Int), laws_toJobS.l0 kq a0 v4 v5 = some r → AG prog 24 23 [.c (.own 62 3 r.length (fun j => e62 (r.getD j z62)))] w0 (headStk (codeOf f24) 0) (mkFS (laws_toJobS.h0T a0 v5 v4) (laws_toJobS.h0H a0 v5 v4)) := by
    intro kq
    induction kq with
    | zero => intro v4 v5 h; cases h
    | succ kq ih =>
      intro v4 v5 h
      rw [laws_toJobS.l0] at h
      by_cases c10 : v5 < (a0.length : Int)
      · replace h := ip c10 h
        obtain ⟨c11, h⟩ := ifN h
        obtain ⟨t6, g12, h⟩ := bindN h
        let C12 := mkCon (laws_toJob.ok (rdD z95 a0 v5) t6 g12) laws_toJob.go
        obtain ⟨c13, h⟩ := ifN h
        exact hd func24 [.b true, .call C12, .aft 999999, orow 448 e62 z62 (v4.set v5.toNat t6), .fin] (oT c10 (o1 c11 (o1 c10 (oc C12 (o1 c11 (o1 c13 (o1 (GE.set (e := e62) (d := z62) v4 v5.toNat t6 (lt_toNat c11 c13) rfl) on))))))) (ih (v4.set v5.toNat t6) (w64 (v5 + 1)) h)
      · replace h := iq c10 h
        cases h
        exact rt func24 [.b false, .fin, .fin] (oF c10 on)
  exact hd func24 [rowe 7 e62 z62 (List.replicate (a0.length : Int).toNat z62), .fin] (o1 (rfl : (a0.length : Int) = (a0.length : Int)) (o1 c1 (o1 (mxl (b := 24) (by decide) c2) (o1 c2 (o1 (GE.rep (e := e62) (d := z62) (a0.length : Int).toNat (CE.refl _)) on))))) (H0 k (List.replicate (a0.length : Int).toNat z62) 0 h)

/-! ### laws_toYard: function 6 -/
def laws_toYard.f (k : Nat) (a0 : S35) : Option S47 := (laws_toSetup.f a0.f0).bind fun t1 => (laws_toRobotS.f k a0.f1).bind fun t2 => (laws_toWindow.f k a0.f2).bind fun t3 => (laws_toPlan.f k a0.f5).bind fun t4 => (laws_toJobS.f k a0.f6).bind fun t5 => (laws_toIntS.f k a0.f7).bind fun t6 => some (⟨t1, t2, t3, a0.f3, a0.f4, t4, t5, t6⟩ : S47)
theorem laws_toYard.go : Callable prog 6 := ⟨_, func6, by kernel_rfl, rfl⟩
theorem laws_toYard.ok (k : Nat) (a0 : S35) (r : S47) (h : laws_toYard.f k a0 = some r) : VCalls prog 6 [.agg (e35 a0)] [.agg (rn47 r)] := by
  unfold laws_toYard.f at h
  refine VCalls.of (fn := f6) (N := 35) func6 rfl rfl (fun w0 => ?_)
  obtain ⟨t1, g1, h⟩ := bindN h
  let C1 := mkCon (laws_toSetup.ok a0.f0 t1 g1) laws_toSetup.go
  obtain ⟨t2, g2, h⟩ := bindN h
  let C2 := mkCon (laws_toRobotS.ok k a0.f1 t2 g2) laws_toRobotS.go
  obtain ⟨t3, g3, h⟩ := bindN h
  let C3 := mkCon (laws_toWindow.ok k a0.f2 t3 g3) laws_toWindow.go
  obtain ⟨t4, g4, h⟩ := bindN h
  let C4 := mkCon (laws_toPlan.ok k a0.f5 t4 g4) laws_toPlan.go
  obtain ⟨t5, g5, h⟩ := bindN h
  let C5 := mkCon (laws_toJobS.ok k a0.f6 t5 g5) laws_toJobS.go
  obtain ⟨t6, g6, h⟩ := bindN h
  let C6 := mkCon (laws_toIntS.ok k a0.f7 t6 g6) laws_toIntS.go
  cases h
  exact rt func6 [.call C1, .call C2, .call C3, .call C4, .call C5, .call C6, .fin] (oc C1 (oc C2 (oc C3 (oc C4 (oc C5 (oc C6 on))))))

/-! ### spec_l17Copy: function 48 -/
def spec_l17Copy.f (a0 : S41) : Option S41 := if (([] : List Int).length + a0.f2.length) * 8 ≤ 140737488355328 then (some (⟨a0.f0, a0.f1, (([] : List Int) ++ a0.f2)⟩ : S41)) else none
theorem spec_l17Copy.go : Callable prog 48 := ⟨_, func48, by kernel_rfl, rfl⟩
theorem spec_l17Copy.ok (a0 : S41) (r : S41) (h : spec_l17Copy.f a0 = some r) : VCalls prog 48 [.agg (e41 a0)] [.agg (r41 r)] := by
  unfold spec_l17Copy.f at h
  refine VCalls.of (fn := f48) (N := 9) func48 rfl rfl (fun w0 => ?_)
  obtain ⟨c1, h⟩ := ifN h
  cases h
  exact rt func48 [rowe 3 (eI .i64) 0 ([] : List Int), .aft 6, orow 192 (eI .i64) 0 (([] : List Int) ++ a0.f2), .reg 2, .flat 192, .fin] (o1 (GE.lit 1 (eI .i64) 0 ([] : List Int) (by intro x; rfl)) (o1 c1 (o1 (GE.app (e := (eI .i64)) (d := 0) ([] : List Int) a0.f2 rfl (fun _ _ => CE.refl _) rfl) (o1 (SC.of (e := (eI .i64)) (d := 0) (([] : List Int) ++ a0.f2) (by intro x; rfl)) on))))

/-! ### spec_l11Copy: function 49 -/
def spec_l11Copy.h0T (a0 : List S64) (v3 : Int) (v2 : List S64) : List (Nat × AV) := [(0, .t (.c (.p false (R 1 e64 z64 a0)))), (3, .t (.c (.h 320))), (4, .t (.c (.p true (iI v3))))]
def spec_l11Copy.h0H (a0 : List S64) (v3 : Int) (v2 : List S64) : List (Nat × Content) := [(320, .row 64 1 v2.length (fun j => e64 (v2.getD j z64)) true)]
def spec_l11Copy.l0 : Nat → List S64 → List S64 → Int → Option (List S64)
  | 0, _, _, _ => none
  | kq + 1, a0, v2, v3 => if v3 < (a0.length : Int) then (if 0 ≤ v3 then (if (([] : List Int).length + ((rdD z64 a0 v3).f0).length) * 8 ≤ 140737488355328 then (if (v2.length + 1) * 24 ≤ 140737488355328 then (spec_l11Copy.l0 kq a0 (v2 ++ [(⟨(([] : List Int) ++ (rdD z64 a0 v3).f0)⟩ : S64)]) (w64 (v3 + 1))) else none) else none) else none) else (some v2)
def spec_l11Copy.f (k : Nat) (a0 : List S64) : Option (List S64) := spec_l11Copy.l0 k a0 ([] : List S64) 0
theorem spec_l11Copy.go : Callable prog 49 := ⟨_, func49, by kernel_rfl, rfl⟩
theorem spec_l11Copy.ok (k : Nat) (a0 : List S64) (r : (List S64)) (h : spec_l11Copy.f k a0 = some r) : VCalls prog 49 [.c (R 1 e64 z64 a0)] [.c (.own 64 1 r.length (fun j => e64 (r.getD j z64)))] := by
  unfold spec_l11Copy.f at h
  refine VCalls.of (fn := f49) (N := 24) func49 rfl rfl (fun w0 => ?_)
  have H0 : ∀ (kq : Nat) (v2 : List S64) (v3 : Int), spec_l11Copy.l0 kq a0 v2 v3 = some r → AG prog 49 24 [.c (.own 64 1 r.length (fun j => e64 (r.getD j z64)))] w0 (headStk (codeOf f49) 0) (mkFS (spec_l11Copy.h0T a0 v3 v2) (spec_l11Copy.h0H a0 v3 v2)) := by
    intro kq
    induction kq with
    | zero => intro v2 v3 h; cases h
    | succ kq ih =>
      intro v2 v3 h
      rw [spec_l11Copy.l0] at h
      by_cases c8 : v3 < (a0.length : Int)
      · replace h := ip c8 h
        obtain ⟨c9, h⟩ := ifN h
        obtain ⟨c10, h⟩ := ifN h
        obtain ⟨c11, h⟩ := ifN h
        exact hd func49 [.b true, rowe 13 (eI .i64) 0 ([] : List Int), .aft 19, orow 832 (eI .i64) 0 (([] : List Int) ++ (rdD z64 a0 v3).f0), .op 21, .flat 832, .freeze 832, rowe 21 e64 z64 ([(⟨(([] : List Int) ++ (rdD z64 a0 v3).f0)⟩ : S64)]), .aft 22, orow 320 e64 z64 (v2 ++ [(⟨(([] : List Int) ++ (rdD z64 a0 v3).f0)⟩ : S64)]), .fin] (oT c8 (o1 (GE.lit 1 (eI .i64) 0 ([] : List Int) (by intro x; rfl)) (o1 c9 (o1 c8 (o1 c10 (o1 (GE.app (e := (eI .i64)) (d := 0) ([] : List Int) ((rdD z64 a0 v3).f0) rfl (fun _ _ => CE.refl _) rfl) (o1 (SC.of (e := (eI .i64)) (d := 0) (([] : List Int) ++ (rdD z64 a0 v3).f0) (by intro x; rfl)) (o1 (GE.lit 1 e64 z64 [(⟨(([] : List Int) ++ (rdD z64 a0 v3).f0)⟩ : S64)] (by intro x; rfl)) (o1 c11 (o1 (GE.app (e := e64) (d := z64) v2 ([(⟨(([] : List Int) ++ (rdD z64 a0 v3).f0)⟩ : S64)]) rfl (fun _ _ => CE.refl _) rfl) on)))))))))) (ih (v2 ++ [(⟨(([] : List Int) ++ (rdD z64 a0 v3).f0)⟩ : S64)]) (w64 (v3 + 1)) h)
      · replace h := iq c8 h
        cases h
        exact rt func49 [.b false, .fin, .fin] (oF c8 on)
  exact hd func49 [rowe 5 e64 z64 ([] : List S64), .fin] (o1 (GE.lit 1 e64 z64 ([] : List S64) (by intro x; rfl)) on) (H0 k ([] : List S64) 0 h)

/-! ### spec_l21Copy: function 17 -/
def spec_l21Copy.f (k : Nat) (a0 : S47) : Option S47 := if (([] : List S90).length + a0.f1.length) * 32 ≤ 140737488355328 then ((spec_l17Copy.f a0.f2).bind fun t1 => (spec_l11Copy.f k a0.f5.f2).bind fun t2 => if (([] : List S62).length + a0.f6.length) * 24 ≤ 140737488355328 then (if (([] : List Int).length + a0.f7.length) * 8 ≤ 140737488355328 then (some (⟨a0.f0, (([] : List S90) ++ a0.f1), t1, a0.f3, a0.f4, (⟨a0.f5.f0, a0.f5.f1, t2⟩ : S44), (([] : List S62) ++ a0.f6), (([] : List Int) ++ a0.f7)⟩ : S47)) else none) else none) else none
theorem spec_l21Copy.go : Callable prog 17 := ⟨_, func17, by kernel_rfl, rfl⟩
theorem spec_l21Copy.ok (k : Nat) (a0 : S47) (r : S47) (h : spec_l21Copy.f k a0 = some r) : VCalls prog 17 [.agg (e47 a0)] [.agg (r47 r)] := by
  unfold spec_l21Copy.f at h
  refine VCalls.of (fn := f17) (N := 29) func17 rfl rfl (fun w0 => ?_)
  obtain ⟨c1, h⟩ := ifN h
  obtain ⟨t1, g2, h⟩ := bindN h
  let C2 := mkCon (spec_l17Copy.ok a0.f2 t1 g2) spec_l17Copy.go
  obtain ⟨t2, g3, h⟩ := bindN h
  let C3 := mkCon (spec_l11Copy.ok k a0.f5.f2 t2 g3) spec_l11Copy.go
  obtain ⟨c4, h⟩ := ifN h
  obtain ⟨c5, h⟩ := ifN h
  cases h
  exact rt func17 [rowe 3 e90 z90 ([] : List S90), .aft 6, orow 192 e90 z90 (([] : List S90) ++ a0.f1), .reg 2, .flat 192, .call C2, .call C3, rowe 18 e62 z62 ([] : List S62), .aft 21, orow 1152 e62 z62 (([] : List S62) ++ a0.f6), .reg 5, .flat 1152, rowe 23 (eI .i64) 0 ([] : List Int), .aft 26, orow 1472 (eI .i64) 0 (([] : List Int) ++ a0.f7), .reg 6, .flat 1472, .fin] (o1 (GE.lit 4 e90 z90 ([] : List S90) (by intro x; rfl)) (o1 c1 (o1 (GE.app (e := e90) (d := z90) ([] : List S90) a0.f1 rfl (fun _ _ => CE.refl _) rfl) (o1 (SC.of (e := e90) (d := z90) (([] : List S90) ++ a0.f1) (by intro x; rfl)) (oc C2 (oc C3 (o1 (GE.lit 3 e62 z62 ([] : List S62) (by intro x; rfl)) (o1 c4 (o1 (GE.app (e := e62) (d := z62) ([] : List S62) a0.f6 rfl (fun _ _ => CE.refl _) rfl) (o1 (SC.of (e := e62) (d := z62) (([] : List S62) ++ a0.f6) (by intro x; rfl)) (o1 (GE.lit 1 (eI .i64) 0 ([] : List Int) (by intro x; rfl)) (o1 c5 (o1 (GE.app (e := (eI .i64)) (d := 0) ([] : List Int) a0.f7 rfl (fun _ _ => CE.refl _) rfl) (o1 (SC.of (e := (eI .i64)) (d := 0) (([] : List Int) ++ a0.f7) (by intro x; rfl)) on))))))))))))))

/-! ### spec_l01In: function 50 -/
def spec_l01In.f (a0 : Int) (a1 : Int) (a2 : Int) : Option Bool := if a1 ≤ a0 then (some (decide (a0 ≤ a2))) else (some false)
theorem spec_l01In.go : Callable prog 50 := ⟨_, func50, by kernel_rfl, rfl⟩
theorem spec_l01In.ok (a0 : Int) (a1 : Int) (a2 : Int) (r : Bool) (h : spec_l01In.f a0 a1 a2 = some r) : VCalls prog 50 [.c (iI a0), .c (iI a1), .c (iI a2)] [.c (.p (.sc (.bool r)))] := by
  unfold spec_l01In.f at h
  refine VCalls.of (fn := f50) (N := 15) func50 rfl rfl (fun w0 => ?_)
  by_cases c1 : a1 ≤ a0
  · replace h := ip c1 h
    cases h
    exact rt func50 [.dec 10 true, .fin] (oT c1 on)
  · replace h := iq c1 h
    cases h
    exact rt func50 [.dec 10 false, .fin] (oF c1 on)

/-! ### spec_RobotAt: function 74 -/
def spec_RobotAt.h0T (a0 : List S90) (a1 : Int) (v1 : Int) : List (Nat × AV) := [(0, .t (.c (.p false (R 4 e90 z90 a0)))), (1, .t (.c (.p false (iI a1)))), (5, .t (.c (.p true (iI v1))))]
def spec_RobotAt.h0H (a0 : List S90) (a1 : Int) (v1 : Int) : List (Nat × Content) := []
def spec_RobotAt.l0 : Nat → List S90 → Int → Int → Option Int
  | 0, _, _, _ => none
  | kq + 1, a0, a1, v1 => if v1 < (a0.length : Int) then (if 0 ≤ v1 then (if (rdD z90 a0 v1).f0 = a1 then (some v1) else (spec_RobotAt.l0 kq a0 a1 (w64 (v1 + 1)))) else none) else (some (-1))
def spec_RobotAt.f (k : Nat) (a0 : List S90) (a1 : Int) : Option Int := spec_RobotAt.l0 k a0 a1 0
theorem spec_RobotAt.go : Callable prog 74 := ⟨_, func74, by kernel_rfl, rfl⟩
theorem spec_RobotAt.ok (k : Nat) (a0 : List S90) (a1 : Int) (r : Int) (h : spec_RobotAt.f k a0 a1 = some r) : VCalls prog 74 [.c (R 4 e90 z90 a0), .c (iI a1)] [.c (.p (iI r))] := by
  unfold spec_RobotAt.f at h
  refine VCalls.of (fn := f74) (N := 20) func74 rfl rfl (fun w0 => ?_)
  have H0 : ∀ (kq : Nat) (v1 : Int), spec_RobotAt.l0 kq a0 a1 v1 = some r → AG prog 74 20 [.c (.p (iI r))] w0 (headStk (codeOf f74) 0) (mkFS (spec_RobotAt.h0T a0 a1 v1) (spec_RobotAt.h0H a0 a1 v1)) := by
    intro kq
    induction kq with
    | zero => intro v1 h; cases h
    | succ kq ih =>
      intro v1 h
      rw [spec_RobotAt.l0] at h
      by_cases c3 : v1 < (a0.length : Int)
      · replace h := ip c3 h
        obtain ⟨c4, h⟩ := ifN h
        by_cases c5 : (rdD z90 a0 v1).f0 = a1
        · replace h := ip c5 h
          cases h
          exact rt func74 [.b true, .b true, .fin] (oT c3 (o1 c4 (o1 c3 (oT c5 on))))
        · replace h := iq c5 h
          exact hd func74 [.b true, .b false, .fin] (oT c3 (o1 c4 (o1 c3 (oF c5 on)))) (ih (w64 (v1 + 1)) h)
      · replace h := iq c3 h
        cases h
        exact rt func74 [.b false, .fin, .fin] (oF c3 on)
  exact hd func74 [.fin] on (H0 k 0 h)

/-! ### spec_LayerOf: function 19 -/
def spec_LayerOf.h0T (v2 : Int) (v3 : Int) (a0 : S47) : List (Nat × AV) := [(1, .ptr 64 0), (3, .t (.c (.p true (iI v2)))), (4, .t (.c (.p true (iI v3))))]
def spec_LayerOf.h0H (v2 : Int) (v3 : Int) (a0 : S47) : List (Nat × Content) := [(64, .box 47 [.p false (iI a0.f0.f0.f0), .p false (iI a0.f0.f0.f1), .p false (.sc (.string a0.f0.f0.f2)), .p false (iI a0.f0.f1), .p false (iI a0.f0.f2), .p false (iI a0.f0.f3), .p false (iI a0.f0.f4), .p false (R 4 e90 z90 a0.f1), .p false (iI a0.f2.f0), .p false (iI a0.f2.f1), .p false (R 1 (eI .i64) 0 a0.f2.f2), .p false (iI a0.f3), .p false (.sc (.bool a0.f4)), .p false (iI a0.f5.f0), .p false (iI a0.f5.f1), .p false (R 1 e64 z64 a0.f5.f2), .p false (R 3 e62 z62 a0.f6), .p false (R 1 (eI .i64) 0 a0.f7)])]
def spec_LayerOf.l0 : Nat → S47 → Int → Int → Option Int
  | 0, _, _, _ => none
  | kq + 1, a0, v2, v3 => if v3 < (a0.f6.length : Int) then (if v3 = 0 then (if 0 ≤ v3 then (spec_LayerOf.l0 kq a0 ((rdD z62 a0.f6 v3).f1) (w64 (v3 + 1))) else none) else (if 0 ≤ v3 then (if (rdD z62 a0.f6 v3).f1 < v2 then (spec_LayerOf.l0 kq a0 ((rdD z62 a0.f6 v3).f1) (w64 (v3 + 1))) else (spec_LayerOf.l0 kq a0 v2 (w64 (v3 + 1)))) else none)) else (some v2)
def spec_LayerOf.f (k : Nat) (a0 : S47) : Option Int := spec_LayerOf.l0 k a0 (-1) 0
theorem spec_LayerOf.go : Callable prog 19 := ⟨_, func19, by kernel_rfl, rfl⟩
theorem spec_LayerOf.ok (k : Nat) (a0 : S47) (r : Int) (h : spec_LayerOf.f k a0 = some r) : VCalls prog 19 [.agg (e47 a0)] [.c (.p (iI r))] := by
  unfold spec_LayerOf.f at h
  refine VCalls.of (fn := f19) (N := 31) func19 rfl rfl (fun w0 => ?_)
  have H0 : ∀ (kq : Nat) (v2 : Int) (v3 : Int), spec_LayerOf.l0 kq a0 v2 v3 = some r → AG prog 19 31 [.c (.p (iI r))] w0 (headStk (codeOf f19) 0) (mkFS (spec_LayerOf.h0T v2 v3 a0) (spec_LayerOf.h0H v2 v3 a0)) := by
    intro kq
    induction kq with
    | zero => intro v2 v3 h; cases h
    | succ kq ih =>
      intro v2 v3 h
      rw [spec_LayerOf.l0] at h
      by_cases c5 : v3 < (a0.f6.length : Int)
      · replace h := ip c5 h
        by_cases c6 : v3 = 0
        · replace h := ip c6 h
          obtain ⟨c7, h⟩ := ifN h
          exact hd func19 [.b true, .dec 14 true, .b true, .fin] (oT c5 (oT c6 (oR (o1 c7 (o1 c5 on))))) (ih ((rdD z62 a0.f6 v3).f1) (w64 (v3 + 1)) h)
        · replace h := iq c6 h
          obtain ⟨c8, h⟩ := ifN h
          by_cases c9 : (rdD z62 a0.f6 v3).f1 < v2
          · replace h := ip c9 h
            exact hd func19 [.b true, .dec 14 false, .b true, .fin] (oT c5 (oF c6 (o1 c8 (o1 c5 (oT c9 (o1 c8 (o1 c5 on))))))) (ih ((rdD z62 a0.f6 v3).f1) (w64 (v3 + 1)) h)
          · replace h := iq c9 h
            exact hd func19 [.b true, .dec 14 false, .b false, .fin] (oT c5 (oF c6 (o1 c8 (o1 c5 (oF c9 on))))) (ih v2 (w64 (v3 + 1)) h)
      · replace h := iq c5 h
        cases h
        exact rt func19 [.b false, .fin, .fin] (oF c5 on)
  exact hd func19 [.fin] on (H0 k (-1) 0 h)

/-! ### spec_l21Job: function 51 -/
def spec_l21Job.h0T (a1 : Int) (a0 : S47) (t1 : Int) (v4 : Int) : List (Nat × AV) := [(1, .t (.c (.p false (iI a1)))), (2, .ptr 128 0), (5, .ptr 320 0), (6, .t (.c (.p false (R 1 (eI .i64) 0 ((rdD z64 a0.f5.f2 a1).f0))))), (7, .t (.c (.p true (iI t1)))), (8, .t (.c (.p true (iI v4))))]
def spec_l21Job.h0H (a1 : Int) (a0 : S47) (t1 : Int) (v4 : Int) : List (Nat × Content) := [(128, .box 47 [.p false (iI a0.f0.f0.f0), .p false (iI a0.f0.f0.f1), .p false (.sc (.string a0.f0.f0.f2)), .p false (iI a0.f0.f1), .p false (iI a0.f0.f2), .p false (iI a0.f0.f3), .p false (iI a0.f0.f4), .p false (R 4 e90 z90 a0.f1), .p false (iI a0.f2.f0), .p false (iI a0.f2.f1), .p false (R 1 (eI .i64) 0 a0.f2.f2), .p false (iI a0.f3), .p false (.sc (.bool a0.f4)), .p false (iI a0.f5.f0), .p false (iI a0.f5.f1), .p false (R 1 e64 z64 a0.f5.f2), .p false (R 3 e62 z62 a0.f6), .p false (R 1 (eI .i64) 0 a0.f7)]), (320, .box 62 [.p false (.sc (.int .i64 ((rdD z62 a0.f6 a1).f0))), .p false (.sc (.int .i64 ((rdD z62 a0.f6 a1).f1))), .p false (.sc (.bool ((rdD z62 a0.f6 a1).f2)))])]
def spec_l21Job.l0 : Nat → Int → S47 → Int → Int → Option Bool
  | 0, _, _, _, _ => none
  | kq + 1, a1, a0, t1, v4 => if v4 < a1 then (if 0 ≤ v4 then (if v4 < (a0.f6.length : Int) then (if (rdD z62 a0.f6 v4).f0 = (rdD z62 a0.f6 a1).f0 then (some false) else (spec_l21Job.l0 kq a1 a0 t1 (w64 (v4 + 1)))) else none) else none) else (if 0 ≤ (rdD z62 a0.f6 a1).f1 then (if (rdD z62 a0.f6 a1).f1 < (((rdD z64 a0.f5.f2 a1).f0).length : Int) then (if (rdD z90 a0.f1 t1).f1 = (rdD 0 ((rdD z64 a0.f5.f2 a1).f0) ((rdD z62 a0.f6 a1).f1)) then (if (rdD z62 a0.f6 a1).f2 = true then (if (rdD z62 a0.f6 a1).f1 < a0.f5.f0 then (if 0 ≤ (w64 ((rdD z62 a0.f6 a1).f1 + 1)) then (if (w64 ((rdD z62 a0.f6 a1).f1 + 1)) < (((rdD z64 a0.f5.f2 a1).f0).length : Int) then (some (decide ((rdD z90 a0.f1 t1).f2 = (rdD 0 ((rdD z64 a0.f5.f2 a1).f0) (w64 ((rdD z62 a0.f6 a1).f1 + 1)))))) else none) else none) else (some false)) else (some (decide ((rdD z90 a0.f1 t1).f2 = (-1))))) else (some false)) else none) else none)
def spec_l21Job.f (k : Nat) (a0 : S47) (a1 : Int) : Option Bool := if 0 ≤ a1 then (if a1 < (a0.f6.length : Int) then (if a1 < (a0.f5.f2.length : Int) then ((spec_RobotAt.f k a0.f1 ((rdD z62 a0.f6 a1).f0)).bind fun t1 => if (w64 ((((rdD z64 a0.f5.f2 a1).f0).length : Int) - 1)) = a0.f5.f0 then (if t1 < 0 then (some false) else (if 0 ≤ t1 then (if t1 < (a0.f1.length : Int) then (if (rdD z90 a0.f1 t1).f3 = true then (some false) else ((spec_l01In.f ((rdD z62 a0.f6 a1).f1) 0 a0.f5.f0).bind fun t2 => if t2 = true then ((spec_LayerOf.f k a0).bind fun t3 => if (w64 (t3 + 1)) < (rdD z62 a0.f6 a1).f1 then (some false) else (spec_l21Job.l0 k a1 a0 t1 0)) else (some false))) else none) else none)) else (some false)) else none) else none) else none
theorem spec_l21Job.go : Callable prog 51 := ⟨_, func51, by kernel_rfl, rfl⟩
theorem spec_l21Job.ok (k : Nat) (a0 : S47) (a1 : Int) (r : Bool) (h : spec_l21Job.f k a0 a1 = some r) : VCalls prog 51 [.agg (e47 a0), .c (iI a1)] [.c (.p (.sc (.bool r)))] := by
  unfold spec_l21Job.f at h
  refine VCalls.of (fn := f51) (N := 118) func51 rfl rfl (fun w0 => ?_)
  obtain ⟨c1, h⟩ := ifN h
  obtain ⟨c2, h⟩ := ifN h
  obtain ⟨c3, h⟩ := ifN h
  obtain ⟨t1, g4, h⟩ := bindN h
  let C4 := mkCon (spec_RobotAt.ok k a0.f1 ((rdD z62 a0.f6 a1).f0) t1 g4) spec_RobotAt.go
  by_cases c5 : (w64 ((((rdD z64 a0.f5.f2 a1).f0).length : Int) - 1)) = a0.f5.f0
  · replace h := ip c5 h
    by_cases c6 : t1 < 0
    · replace h := ip c6 h
      cases h
      exact rt func51 [.call C4, .dec 33 false, .dec 37 true, .b true, .fin] (o1 c1 (o1 c2 (o1 c1 (o1 c3 (oc C4 (o1 (bnf (decide_eq_true c5)) (oT c6 (oR on))))))))
    · replace h := iq c6 h
      obtain ⟨c7, h⟩ := ifN h
      obtain ⟨c8, h⟩ := ifN h
      by_cases c9 : (rdD z90 a0.f1 t1).f3 = true
      · replace h := ip c9 h
        cases h
        exact rt func51 [.call C4, .dec 33 false, .dec 37 false, .dec 45 true, .b true, .fin] (o1 c1 (o1 c2 (o1 c1 (o1 c3 (oc C4 (o1 (bnf (decide_eq_true c5)) (oF c6 (o1 c7 (o1 c8 (o1 c9 (oR on)))))))))))
      · replace h := iq c9 h
        obtain ⟨t2, g10, h⟩ := bindN h
        let C10 := mkCon (spec_l01In.ok ((rdD z62 a0.f6 a1).f1) 0 a0.f5.f0 t2 g10) spec_l01In.go
        by_cases c11 : t2 = true
        · replace h := ip c11 h
          obtain ⟨t3, g12, h⟩ := bindN h
          let C12 := mkCon (spec_LayerOf.ok k a0 t3 g12) spec_LayerOf.go
          by_cases c13 : (w64 (t3 + 1)) < (rdD z62 a0.f6 a1).f1
          · replace h := ip c13 h
            cases h
            exact rt func51 [.call C4, .dec 33 false, .dec 37 false, .dec 45 false, .call C10, .dec 54 false, .call C12, .b true, .fin] (o1 c1 (o1 c2 (o1 c1 (o1 c3 (oc C4 (o1 (bnf (decide_eq_true c5)) (oF c6 (o1 c7 (o1 c8 (o1 (eqf c9) (oc C10 (o1 (bnf c11) (oc C12 (oT c13 on))))))))))))))
          · replace h := iq c13 h
            have H0 : ∀ (kq : Nat) (v4 : Int), spec_l21Job.l0 kq a1 a0 t1 v4 = some r → AG prog 51 118 [.c (.p (.sc (.bool r)))] w0 (headStk (codeOf f51) 0) (mkFS (spec_l21Job.h0T a1 a0 t1 v4) (spec_l21Job.h0H a1 a0 t1 v4)) := by
              intro kq
              induction kq with
              | zero => intro v4 h; cases h
              | succ kq ih =>
                intro v4 h
                rw [spec_l21Job.l0] at h
                by_cases c17 : v4 < a1
                · replace h := ip c17 h
                  obtain ⟨c18, h⟩ := ifN h
                  obtain ⟨c19, h⟩ := ifN h
                  by_cases c20 : (rdD z62 a0.f6 v4).f0 = (rdD z62 a0.f6 a1).f0
                  · replace h := ip c20 h
                    cases h
                    exact rt func51 [.b true, .b true, .fin] (oT c17 (o1 c18 (o1 c19 (oT c20 on))))
                  · replace h := iq c20 h
                    exact hd func51 [.b true, .b false, .fin] (oT c17 (o1 c18 (o1 c19 (oF c20 on)))) (ih (w64 (v4 + 1)) h)
                · replace h := iq c17 h
                  obtain ⟨c21, h⟩ := ifN h
                  obtain ⟨c22, h⟩ := ifN h
                  by_cases c23 : (rdD z90 a0.f1 t1).f1 = (rdD 0 ((rdD z64 a0.f5.f2 a1).f0) ((rdD z62 a0.f6 a1).f1))
                  · replace h := ip c23 h
                    by_cases c24 : (rdD z62 a0.f6 a1).f2 = true
                    · replace h := ip c24 h
                      by_cases c25 : (rdD z62 a0.f6 a1).f1 < a0.f5.f0
                      · replace h := ip c25 h
                        obtain ⟨c26, h⟩ := ifN h
                        obtain ⟨c27, h⟩ := ifN h
                        cases h
                        exact rt func51 [.b false, .fin, .b false, .b true, .dec 96 true, .fin] (oF c17 (o1 c7 (o1 c8 (o1 c21 (o1 c22 (o1 (bnf (decide_eq_true c23)) (o1 c24 (oT c25 (o1 c7 (o1 c8 (o1 c26 (o1 c27 on))))))))))))
                      · replace h := iq c25 h
                        cases h
                        exact rt func51 [.b false, .fin, .b false, .b true, .dec 96 false, .fin] (oF c17 (o1 c7 (o1 c8 (o1 c21 (o1 c22 (o1 (bnf (decide_eq_true c23)) (o1 c24 (oF c25 on))))))))
                    · replace h := iq c24 h
                      cases h
                      exact rt func51 [.b false, .fin, .b false, .b false, .fin] (oF c17 (o1 c7 (o1 c8 (o1 c21 (o1 c22 (o1 (bnf (decide_eq_true c23)) (o1 (eqf c24) (o1 c7 (o1 c8 on)))))))))
                  · replace h := iq c23 h
                    cases h
                    exact rt func51 [.b false, .fin, .b true, .fin] (oF c17 (o1 c7 (o1 c8 (o1 c21 (o1 c22 (o1 (bnt (decide_eq_false c23)) on))))))
            exact hd func51 [.call C4, .dec 33 false, .dec 37 false, .dec 45 false, .call C10, .dec 54 false, .call C12, .b false, .fin] (o1 c1 (o1 c2 (o1 c1 (o1 c3 (oc C4 (o1 (bnf (decide_eq_true c5)) (oF c6 (o1 c7 (o1 c8 (o1 (eqf c9) (oc C10 (o1 (bnf c11) (oc C12 (oF c13 on)))))))))))))) (H0 k 0 h)
        · replace h := iq c11 h
          cases h
          exact rt func51 [.call C4, .dec 33 false, .dec 37 false, .dec 45 false, .call C10, .dec 54 true, .b true, .fin] (o1 c1 (o1 c2 (o1 c1 (o1 c3 (oc C4 (o1 (bnf (decide_eq_true c5)) (oF c6 (o1 c7 (o1 c8 (o1 (eqf c9) (oc C10 (oN c11 (oR on)))))))))))))
  · replace h := iq c5 h
    cases h
    exact rt func51 [.call C4, .dec 33 true, .b true, .fin] (o1 c1 (o1 c2 (o1 c1 (o1 c3 (oc C4 (o1 (bnt (decide_eq_false c5)) (oR on)))))))

/-! ### spec_l21Jobs: function 18 -/
def spec_l21Jobs.h0T (v3 : Int) (a0 : S47) : List (Nat × AV) := [(1, .ptr 64 0), (3, .t (.c (.p true (iI v3))))]
def spec_l21Jobs.h0H (v3 : Int) (a0 : S47) : List (Nat × Content) := [(64, .box 47 [.p false (iI a0.f0.f0.f0), .p false (iI a0.f0.f0.f1), .p false (.sc (.string a0.f0.f0.f2)), .p false (iI a0.f0.f1), .p false (iI a0.f0.f2), .p false (iI a0.f0.f3), .p false (iI a0.f0.f4), .p false (R 4 e90 z90 a0.f1), .p false (iI a0.f2.f0), .p false (iI a0.f2.f1), .p false (R 1 (eI .i64) 0 a0.f2.f2), .p false (iI a0.f3), .p false (.sc (.bool a0.f4)), .p false (iI a0.f5.f0), .p false (iI a0.f5.f1), .p false (R 1 e64 z64 a0.f5.f2), .p false (R 3 e62 z62 a0.f6), .p false (R 1 (eI .i64) 0 a0.f7)])]
def spec_l21Jobs.l0 : Nat → S47 → Int → Option Bool
  | 0, _, _ => none
  | kq + 1, a0, v3 => if v3 < (a0.f6.length : Int) then ((spec_l21Job.f kq a0 v3).bind fun t4 => if t4 = true then (spec_l21Jobs.l0 kq a0 (w64 (v3 + 1))) else (some false)) else (some true)
def spec_l21Jobs.f (k : Nat) (a0 : S47) : Option Bool := if 20 < a0.f5.f0 then (some false) else ((spec_l01In.f (a0.f6.length : Int) 1 10).bind fun t1 => if t1 = true then (if (a0.f6.length : Int) = (a0.f5.f2.length : Int) then (spec_l21Jobs.l0 k a0 0) else (some false)) else (some false))
theorem spec_l21Jobs.go : Callable prog 18 := ⟨_, func18, by kernel_rfl, rfl⟩
theorem spec_l21Jobs.ok (k : Nat) (a0 : S47) (r : Bool) (h : spec_l21Jobs.f k a0 = some r) : VCalls prog 18 [.agg (e47 a0)] [.c (.p (.sc (.bool r)))] := by
  unfold spec_l21Jobs.f at h
  refine VCalls.of (fn := f18) (N := 36) func18 rfl rfl (fun w0 => ?_)
  by_cases c1 : 20 < a0.f5.f0
  · replace h := ip c1 h
    cases h
    exact rt func18 [.dec 8 true, .b true, .fin] (oT c1 (oR on))
  · replace h := iq c1 h
    obtain ⟨t1, g2, h⟩ := bindN h
    let C2 := mkCon (spec_l01In.ok (a0.f6.length : Int) 1 10 t1 g2) spec_l01In.go
    by_cases c3 : t1 = true
    · replace h := ip c3 h
      by_cases c4 : (a0.f6.length : Int) = (a0.f5.f2.length : Int)
      · replace h := ip c4 h
        have H0 : ∀ (kq : Nat) (v3 : Int), spec_l21Jobs.l0 kq a0 v3 = some r → AG prog 18 36 [.c (.p (.sc (.bool r)))] w0 (headStk (codeOf f18) 0) (mkFS (spec_l21Jobs.h0T v3 a0) (spec_l21Jobs.h0H v3 a0)) := by
          intro kq
          induction kq with
          | zero => intro v3 h; cases h
          | succ kq ih =>
            intro v3 h
            rw [spec_l21Jobs.l0] at h
            by_cases c8 : v3 < (a0.f6.length : Int)
            · replace h := ip c8 h
              obtain ⟨t4, g9, h⟩ := bindN h
              let C9 := mkCon (spec_l21Job.ok kq a0 v3 t4 g9) spec_l21Job.go
              by_cases c10 : t4 = true
              · replace h := ip c10 h
                exact hd func18 [.b true, .call C9, .b false, .fin] (oT c8 (oc C9 (o1 (bnf c10) on))) (ih (w64 (v3 + 1)) h)
              · replace h := iq c10 h
                cases h
                exact rt func18 [.b true, .call C9, .b true, .fin] (oT c8 (oc C9 (oN c10 on)))
            · replace h := iq c8 h
              cases h
              exact rt func18 [.b false, .fin, .fin] (oF c8 on)
        exact hd func18 [.dec 8 false, .call C2, .dec 15 false, .b false, .fin] (oF c1 (oc C2 (o1 (bnf c3) (o1 (bnf (decide_eq_true c4)) on)))) (H0 k 0 h)
      · replace h := iq c4 h
        cases h
        exact rt func18 [.dec 8 false, .call C2, .dec 15 false, .b true, .fin] (oF c1 (oc C2 (o1 (bnf c3) (o1 (bnt (decide_eq_false c4)) on))))
    · replace h := iq c3 h
      cases h
      exact rt func18 [.dec 8 false, .call C2, .dec 15 true, .b true, .fin] (oF c1 (oc C2 (oN c3 (oR on))))

/-! ### spec_Onward: function 5 -/
def spec_Onward.h1T (v51 : Int) (t52 : Int) (v73 : Int) (t1 : S47) (v50 : List S62) : List (Nat × AV) := [(1, .ptr 64 0), (2, .ptr 128 0), (3, .t (.c (.p true (iI v51)))), (4, .t (.c (.p true (iI t52)))), (5, .t (.c (.p true (iI v73))))]
def spec_Onward.h1H (v51 : Int) (t52 : Int) (v73 : Int) (t1 : S47) (v50 : List S62) : List (Nat × Content) := [(64, .box 47 [.p true (iI t1.f0.f0.f0), .p true (iI t1.f0.f0.f1), .p true (.sc (.string t1.f0.f0.f2)), .p true (iI t1.f0.f1), .p true (iI t1.f0.f2), .p true (iI t1.f0.f3), .p true (iI t1.f0.f4), .h 583, .p true (iI t1.f2.f0), .p true (iI t1.f2.f1), .h 586, .p true (iI t1.f3), .p true (.sc (.bool t1.f4)), .p true (iI t1.f5.f0), .p true (iI t1.f5.f1), .h 591, .h 592, .h 593]), (128, .box 47 [.p true (iI 0), .p true (iI 0), .p true (.sc (.string (⟨#[]⟩ : ByteArray))), .p true (iI 0), .p true (iI 0), .p true (iI 0), .p true (iI 0), .p true (.sc (.slice none 0 0)), .p true (iI 0), .p true (iI 0), .p true (.sc (.slice none 0 0)), .p true (iI 0), .p true (.sc (.bool false)), .p true (iI 0), .p true (iI 0), .p true (.sc (.slice none 0 0)), .p true (.sc (.slice none 0 0)), .p true (.sc (.slice none 0 0))]), (583, .row 90 4 t1.f1.length (fun j => e90 (t1.f1.getD j z90)) true), (586, .row 3 1 t1.f2.f2.length (fun j => (eI .i64) (t1.f2.f2.getD j 0)) true), (591, .row 64 1 t1.f5.f2.length (fun j => e64 (t1.f5.f2.getD j z64)) true), (592, .row 62 3 v50.length (fun j => e62 (v50.getD j z62)) true), (593, .row 3 1 t1.f7.length (fun j => (eI .i64) (t1.f7.getD j 0)) true)]
def spec_Onward.x1T (v51 : Int) (t1 : S47) (y74 : (List S62)) : List (Nat × AV) := [(1, .ptr 64 0), (2, .ptr 128 0), (3, .t (.c (.p true (iI v51))))]
def spec_Onward.x1H (v51 : Int) (t1 : S47) (y74 : (List S62)) : List (Nat × Content) := [(64, .box 47 [.p true (iI t1.f0.f0.f0), .p true (iI t1.f0.f0.f1), .p true (.sc (.string t1.f0.f0.f2)), .p true (iI t1.f0.f1), .p true (iI t1.f0.f2), .p true (iI t1.f0.f3), .p true (iI t1.f0.f4), .h 583, .p true (iI t1.f2.f0), .p true (iI t1.f2.f1), .h 586, .p true (iI t1.f3), .p true (.sc (.bool t1.f4)), .p true (iI t1.f5.f0), .p true (iI t1.f5.f1), .h 591, .h 592, .h 593]), (128, .box 47 [.p true (iI 0), .p true (iI 0), .p true (.sc (.string (⟨#[]⟩ : ByteArray))), .p true (iI 0), .p true (iI 0), .p true (iI 0), .p true (iI 0), .p true (.sc (.slice none 0 0)), .p true (iI 0), .p true (iI 0), .p true (.sc (.slice none 0 0)), .p true (iI 0), .p true (.sc (.bool false)), .p true (iI 0), .p true (iI 0), .p true (.sc (.slice none 0 0)), .p true (.sc (.slice none 0 0)), .p true (.sc (.slice none 0 0))]), (583, .row 90 4 t1.f1.length (fun j => e90 (t1.f1.getD j z90)) true), (586, .row 3 1 t1.f2.f2.length (fun j => (eI .i64) (t1.f2.f2.getD j 0)) true), (591, .row 64 1 t1.f5.f2.length (fun j => e64 (t1.f5.f2.getD j z64)) true), (592, .row 62 3 y74.length (fun j => e62 (y74.getD j z62)) true), (593, .row 3 1 t1.f7.length (fun j => (eI .i64) (t1.f7.getD j 0)) true)]
def spec_Onward.l1 : Nat → List S62 → S47 → Int → Int → Option (List S62)
  | 0, _, _, _, _ => none
  | kq + 1, v50, t1, t52, v73 => if v73 < (v50.length : Int) then (if 0 ≤ v73 then (if v73 < (t1.f5.f2.length : Int) then (if (rdD z62 v50 v73).f1 = t52 then (if t52 < t1.f5.f0 then (if (rdD z62 v50 v73).f2 = true then (spec_Onward.l1 kq v50 t1 t52 (w64 (v73 + 1))) else (if 0 ≤ (w64 ((rdD z62 v50 v73).f1 + 1)) then (if (w64 ((rdD z62 v50 v73).f1 + 1)) < (((rdD z64 t1.f5.f2 v73).f0).length : Int) then (if 0 ≤ (rdD z62 v50 v73).f1 then (if (rdD z62 v50 v73).f1 < (((rdD z64 t1.f5.f2 v73).f0).length : Int) then (if (rdD 0 ((rdD z64 t1.f5.f2 v73).f0) (w64 ((rdD z62 v50 v73).f1 + 1))) = (rdD 0 ((rdD z64 t1.f5.f2 v73).f0) ((rdD z62 v50 v73).f1)) then (some (v50.set v73.toNat (⟨(rdD z62 v50 v73).f0, (w64 ((rdD z62 v50 v73).f1 + 1)), (rdD z62 v50 v73).f2⟩ : S62))) else (spec_Onward.l1 kq v50 t1 t52 (w64 (v73 + 1)))) else none) else none) else none) else none)) else (spec_Onward.l1 kq v50 t1 t52 (w64 (v73 + 1)))) else (spec_Onward.l1 kq v50 t1 t52 (w64 (v73 + 1)))) else none) else none) else (some v50)
def spec_Onward.h0T (v51 : Int) (t1 : S47) (v50 : List S62) : List (Nat × AV) := [(1, .ptr 64 0), (2, .ptr 128 0), (3, .t (.c (.p true (iI v51))))]
def spec_Onward.h0H (v51 : Int) (t1 : S47) (v50 : List S62) : List (Nat × Content) := [(64, .box 47 [.p true (iI t1.f0.f0.f0), .p true (iI t1.f0.f0.f1), .p true (.sc (.string t1.f0.f0.f2)), .p true (iI t1.f0.f1), .p true (iI t1.f0.f2), .p true (iI t1.f0.f3), .p true (iI t1.f0.f4), .h 583, .p true (iI t1.f2.f0), .p true (iI t1.f2.f1), .h 586, .p true (iI t1.f3), .p true (.sc (.bool t1.f4)), .p true (iI t1.f5.f0), .p true (iI t1.f5.f1), .h 591, .h 592, .h 593]), (128, .box 47 [.p true (iI 0), .p true (iI 0), .p true (.sc (.string (⟨#[]⟩ : ByteArray))), .p true (iI 0), .p true (iI 0), .p true (iI 0), .p true (iI 0), .p true (.sc (.slice none 0 0)), .p true (iI 0), .p true (iI 0), .p true (.sc (.slice none 0 0)), .p true (iI 0), .p true (.sc (.bool false)), .p true (iI 0), .p true (iI 0), .p true (.sc (.slice none 0 0)), .p true (.sc (.slice none 0 0)), .p true (.sc (.slice none 0 0))]), (583, .row 90 4 t1.f1.length (fun j => e90 (t1.f1.getD j z90)) true), (586, .row 3 1 t1.f2.f2.length (fun j => (eI .i64) (t1.f2.f2.getD j 0)) true), (591, .row 64 1 t1.f5.f2.length (fun j => e64 (t1.f5.f2.getD j z64)) true), (592, .row 62 3 v50.length (fun j => e62 (v50.getD j z62)) true), (593, .row 3 1 t1.f7.length (fun j => (eI .i64) (t1.f7.getD j 0)) true)]
def spec_Onward.l0 : Nat → S47 → List S62 → Int → Option S47
  | 0, _, _, _ => none
  | kq + 1, t1, v50, v51 => if v51 ≤ (w64 ((v50.length : Int) * (w64 (t1.f5.f0 + 1)))) then ((spec_LayerOf.f kq (⟨t1.f0, t1.f1, t1.f2, t1.f3, t1.f4, t1.f5, v50, t1.f7⟩ : S47)).bind fun t52 => (spec_Onward.l1 kq v50 t1 t52 0).bind fun y74 => (spec_Onward.l0 kq t1 y74 (w64 (v51 + 1)))) else ((spec_LayerOf.f kq (⟨t1.f0, t1.f1, t1.f2, t1.f3, t1.f4, t1.f5, v50, t1.f7⟩ : S47)).bind fun t75 => if t75 = t1.f5.f0 then (some (⟨t1.f0, t1.f1, t1.f2, t1.f3, false, (⟨0, 0, ([] : List S64)⟩ : S44), ([] : List S62), t1.f7⟩ : S47)) else (some (⟨t1.f0, t1.f1, t1.f2, t1.f3, t1.f4, t1.f5, v50, t1.f7⟩ : S47)))
def spec_Onward.f (k : Nat) (a0 : S47) : Option S47 := (spec_l21Copy.f k a0).bind fun t1 => if t1.f4 = true then ((spec_l21Jobs.f k t1).bind fun t2 => if t2 = true then (spec_Onward.l0 k t1 t1.f6 0) else (some t1)) else (some t1)
theorem spec_Onward.go : Callable prog 5 := ⟨_, func5, by kernel_rfl, rfl⟩
theorem spec_Onward.ok (k : Nat) (a0 : S47) (r : S47) (h : spec_Onward.f k a0 = some r) : VCalls prog 5 [.agg (e47 a0)] [.agg (r47 r)] := by
  unfold spec_Onward.f at h
  refine VCalls.of (fn := f5) (N := 102) func5 rfl rfl (fun w0 => ?_)
  obtain ⟨t1, g1, h⟩ := bindN h
  let C1 := mkCon (spec_l21Copy.ok k a0 t1 g1) spec_l21Copy.go
  by_cases c2 : t1.f4 = true
  · replace h := ip c2 h
    obtain ⟨t2, g3, h⟩ := bindN h
    let C3 := mkCon (spec_l21Jobs.ok k t1 t2 g3) spec_l21Jobs.go
    by_cases c4 : t2 = true
    · replace h := ip c4 h
      have H0 : ∀ (kq : Nat) (v50 : List S62) (v51 : Int), spec_Onward.l0 kq t1 v50 v51 = some r → AG prog 5 102 [.agg (r47 r)] w0 (headStk (codeOf f5) 0) (mkFS (spec_Onward.h0T v51 t1 v50) (spec_Onward.h0H v51 t1 v50)) := by
        intro kq
        induction kq with
        | zero => intro v50 v51 h; cases h
        | succ kq ih =>
          intro v50 v51 h
          rw [spec_Onward.l0] at h
          by_cases c481 : v51 ≤ (w64 ((v50.length : Int) * (w64 (t1.f5.f0 + 1))))
          · replace h := ip c481 h
            obtain ⟨t52, g482, h⟩ := bindN h
            let C482 := mkCon (spec_LayerOf.ok kq (⟨t1.f0, t1.f1, t1.f2, t1.f3, t1.f4, t1.f5, v50, t1.f7⟩ : S47) t52 g482) spec_LayerOf.go
            have H1 : ∀ (kq : Nat) (v73 : Int) (x : (List S62)), spec_Onward.l1 kq v50 t1 t52 v73 = some x → AG prog 5 102 [.agg (r47 r)] w0 (exitStk (codeOf f5) 1) (mkFS (spec_Onward.x1T v51 t1 x) (spec_Onward.x1H v51 t1 x)) → AG prog 5 102 [.agg (r47 r)] w0 (headStk (codeOf f5) 1) (mkFS (spec_Onward.h1T v51 t52 v73 t1 v50) (spec_Onward.h1H v51 t52 v73 t1 v50)) := by
              intro kq
              induction kq with
              | zero => intro v73 x h hx; cases h
              | succ kq ih =>
                intro v73 x h hx
                rw [spec_Onward.l1] at h
                by_cases c708 : v73 < (v50.length : Int)
                · replace h := ip c708 h
                  obtain ⟨c709, h⟩ := ifN h
                  obtain ⟨c710, h⟩ := ifN h
                  by_cases c711 : (rdD z62 v50 v73).f1 = t52
                  · replace h := ip c711 h
                    by_cases c712 : t52 < t1.f5.f0
                    · replace h := ip c712 h
                      by_cases c713 : (rdD z62 v50 v73).f2 = true
                      · replace h := ip c713 h
                        exact hd func5 [.b true, .dec 56 true, .dec 63 true, .dec 68 false, .b false, .fin] (oT c708 (o1 c709 (o1 c708 (o1 c709 (o1 c710 (oT c711 (oT c712 (o1 (bnf c713) (o1 (rfl : false = false) on))))))))) (ih (w64 (v73 + 1)) _ h hx)
                      · replace h := iq c713 h
                        obtain ⟨c714, h⟩ := ifN h
                        obtain ⟨c715, h⟩ := ifN h
                        obtain ⟨c716, h⟩ := ifN h
                        obtain ⟨c717, h⟩ := ifN h
                        by_cases c718 : (rdD 0 ((rdD z64 t1.f5.f2 v73).f0) (w64 ((rdD z62 v50 v73).f1 + 1))) = (rdD 0 ((rdD z64 t1.f5.f2 v73).f0) ((rdD z62 v50 v73).f1))
                        · replace h := ip c718 h
                          cases h
                          exact st func5 [.b true, .dec 56 true, .dec 63 true, .dec 68 true, .b true, .aft 999999, orow 592 e62 z62 (v50.set v73.toNat (⟨(rdD z62 v50 v73).f0, (w64 ((rdD z62 v50 v73).f1 + 1)), (rdD z62 v50 v73).f2⟩ : S62)), .fin] (oT c708 (o1 c709 (o1 c708 (o1 c709 (o1 c710 (oT c711 (oT c712 (oN c713 (o1 c714 (o1 c715 (o1 c716 (o1 c717 (oT c718 (o1 c709 (o1 c708 (o1 (GE.set (e := e62) (d := z62) v50 v73.toNat (⟨(rdD z62 v50 v73).f0, (w64 ((rdD z62 v50 v73).f1 + 1)), (rdD z62 v50 v73).f2⟩ : S62) (lt_toNat c709 c708) rfl) on)))))))))))))))) hx
                        · replace h := iq c718 h
                          exact hd func5 [.b true, .dec 56 true, .dec 63 true, .dec 68 true, .b false, .fin] (oT c708 (o1 c709 (o1 c708 (o1 c709 (o1 c710 (oT c711 (oT c712 (oN c713 (o1 c714 (o1 c715 (o1 c716 (o1 c717 (oF c718 on))))))))))))) (ih (w64 (v73 + 1)) _ h hx)
                    · replace h := iq c712 h
                      exact hd func5 [.b true, .dec 56 true, .dec 63 false, .b false, .fin] (oT c708 (o1 c709 (o1 c708 (o1 c709 (o1 c710 (oT c711 (oF c712 (o1 (rfl : false = false) on)))))))) (ih (w64 (v73 + 1)) _ h hx)
                  · replace h := iq c711 h
                    exact hd func5 [.b true, .dec 56 false, .b false, .fin] (oT c708 (o1 c709 (o1 c708 (o1 c709 (o1 c710 (oF c711 (o1 (rfl : false = false) on))))))) (ih (w64 (v73 + 1)) _ h hx)
                · replace h := iq c708 h
                  cases h
                  exact st func5 [.b false, .fin] (oF c708 on) hx
            obtain ⟨y74, g719, h⟩ := bindN h
            refine hd func5 [.b true, .call C482, .fin] (oT c481 (oc C482 on)) (H1 kq 0 _ g719 ?_)
            exact hd func5 [.fin] on (ih y74 (w64 (v51 + 1)) h)
          · replace h := iq c481 h
            obtain ⟨t75, g720, h⟩ := bindN h
            let C720 := mkCon (spec_LayerOf.ok kq (⟨t1.f0, t1.f1, t1.f2, t1.f3, t1.f4, t1.f5, v50, t1.f7⟩ : S47) t75 g720) spec_LayerOf.go
            by_cases c721 : t75 = t1.f5.f0
            · replace h := ip c721 h
              cases h
              exact rt func5 [.b false, .fin, .call C720, .b true, rowe 99 e62 z62 ([] : List S62), .fin, .nilB 128 15 448143 64 1, orow 448143 e64 z64 ([] : List S64)] (oF c481 (oc C720 (oT c721 (o1 (GE.lit 3 e62 z62 ([] : List S62) (by intro x; rfl)) (o1 (GE.nil e64 z64) on)))))
            · replace h := iq c721 h
              cases h
              exact rt func5 [.b false, .fin, .call C720, .b false, .fin] (oF c481 (oc C720 (oF c721 on)))
      exact hd func5 [.call C1, .dec 13 false, .call C3, .b false, .fin] (oc C1 (o1 (bnf c2) (oc C3 (o1 (bnf c4) on)))) (H0 k t1.f6 0 h)
    · replace h := iq c4 h
      cases h
      exact rt func5 [.call C1, .dec 13 false, .call C3, .b true, .fin] (oc C1 (o1 (bnf c2) (oc C3 (oN c4 on))))
  · replace h := iq c2 h
    cases h
    exact rt func5 [.call C1, .dec 13 true, .b true, .fin] (oc C1 (oN c2 (oR on)))

/-! ### slices_Clone_impl_Robot_impl_Robot: function 56 -/
def slices_Clone_impl_Robot_impl_Robot.f (a0 : List S90) : Option (List S90) := if (([] : List S90).length + a0.length) * 32 ≤ 140737488355328 then (some (([] : List S90) ++ a0)) else none
theorem slices_Clone_impl_Robot_impl_Robot.go : Callable prog 56 := ⟨_, func56, by kernel_rfl, rfl⟩
theorem slices_Clone_impl_Robot_impl_Robot.ok (a0 : List S90) (r : (List S90)) (h : slices_Clone_impl_Robot_impl_Robot.f a0 = some r) : VCalls prog 56 [.c (R 4 e90 z90 a0)] [.c (.own 90 4 r.length (fun j => e90 (r.getD j z90)))] := by
  unfold slices_Clone_impl_Robot_impl_Robot.f at h
  rcases Nat.eq_zero_or_pos a0.length with hz | hn
  · obtain rfl := List.eq_nil_of_length_eq_zero hz
    refine VCalls.row0 ?_ (fun ad c => ?_)
    · obtain ⟨c0, h⟩ := ifN h
      refine VCalls.of (fn := f56) (N := 8) func56 rfl rfl (fun w0 => ?_)
      cases h
      exact rt func56 [.b true, .fin, .nil 2 384128 90 4, orow 384128 e90 z90 ([] : List S90)] (oR (o1 (GE.nil e90 z90) on))
    · refine VCalls.of (fn := f56) (N := 8) func56 rfl rfl (fun w0 => ?_)
      obtain ⟨c1, h⟩ := ifN h
      cases h
      exact rt func56 [.b false, rowe 5 e90 z90 ([] : List S90), .aft 7, orow 320 e90 z90 (([] : List S90) ++ ([] : List S90)), .fin, .flat 320] (o1 (rfl : false = false) (o1 (GE.lit 4 e90 z90 ([] : List S90) (by intro x; rfl)) (o1 c1 (o1 (GE.z (e := e90) (d := z90)) (o1 (SC.of (e := e90) (d := z90) (([] : List S90) ++ ([] : List S90)) (by intro x; rfl)) on)))))
  · refine VCalls.of (fn := f56) (N := 8) func56 rfl rfl (fun w0 => ?_)
    obtain ⟨c2, h⟩ := ifN h
    cases h
    exact rt func56 [.b false, rowe 5 e90 z90 ([] : List S90), .aft 7, orow 320 e90 z90 (([] : List S90) ++ a0), .fin, .flat 320] (o1 hn (o1 (rfl : false = false) (o1 (GE.lit 4 e90 z90 ([] : List S90) (by intro x; rfl)) (o1 c2 (o1 (GE.app (e := e90) (d := z90) ([] : List S90) a0 rfl (fun _ _ => CE.refl _) rfl) (o1 (SC.of (e := e90) (d := z90) (([] : List S90) ++ a0) (by intro x; rfl)) on))))))

/-! ### slices_Clone_int_int: function 59 -/
def slices_Clone_int_int.f (a0 : List Int) : Option (List Int) := if (([] : List Int).length + a0.length) * 8 ≤ 140737488355328 then (some (([] : List Int) ++ a0)) else none
theorem slices_Clone_int_int.go : Callable prog 59 := ⟨_, func59, by kernel_rfl, rfl⟩
theorem slices_Clone_int_int.ok (a0 : List Int) (r : (List Int)) (h : slices_Clone_int_int.f a0 = some r) : VCalls prog 59 [.c (R 1 (eI .i64) 0 a0)] [.c (.own 3 1 r.length (fun j => (eI .i64) (r.getD j 0)))] := by
  unfold slices_Clone_int_int.f at h
  rcases Nat.eq_zero_or_pos a0.length with hz | hn
  · obtain rfl := List.eq_nil_of_length_eq_zero hz
    refine VCalls.row0 ?_ (fun ad c => ?_)
    · obtain ⟨c0, h⟩ := ifN h
      refine VCalls.of (fn := f59) (N := 8) func59 rfl rfl (fun w0 => ?_)
      cases h
      exact rt func59 [.b true, .fin, .nil 2 384128 3 1, orow 384128 (eI .i64) 0 ([] : List Int)] (oR (o1 (GE.nil (eI .i64) 0) on))
    · refine VCalls.of (fn := f59) (N := 8) func59 rfl rfl (fun w0 => ?_)
      obtain ⟨c1, h⟩ := ifN h
      cases h
      exact rt func59 [.b false, rowe 5 (eI .i64) 0 ([] : List Int), .aft 7, orow 320 (eI .i64) 0 (([] : List Int) ++ ([] : List Int)), .fin, .flat 320] (o1 (rfl : false = false) (o1 (GE.lit 1 (eI .i64) 0 ([] : List Int) (by intro x; rfl)) (o1 c1 (o1 (GE.z (e := (eI .i64)) (d := 0)) (o1 (SC.of (e := (eI .i64)) (d := 0) (([] : List Int) ++ ([] : List Int)) (by intro x; rfl)) on)))))
  · refine VCalls.of (fn := f59) (N := 8) func59 rfl rfl (fun w0 => ?_)
    obtain ⟨c2, h⟩ := ifN h
    cases h
    exact rt func59 [.b false, rowe 5 (eI .i64) 0 ([] : List Int), .aft 7, orow 320 (eI .i64) 0 (([] : List Int) ++ a0), .fin, .flat 320] (o1 hn (o1 (rfl : false = false) (o1 (GE.lit 1 (eI .i64) 0 ([] : List Int) (by intro x; rfl)) (o1 c2 (o1 (GE.app (e := (eI .i64)) (d := 0) ([] : List Int) a0 rfl (fun _ _ => CE.refl _) rfl) (o1 (SC.of (e := (eI .i64)) (d := 0) (([] : List Int) ++ a0) (by intro x; rfl)) on))))))

/-! ### impl_copyWindow: function 57 -/
def impl_copyWindow.f (a0 : S41) : Option S41 := (slices_Clone_int_int.f a0.f2).bind fun t1 => some (⟨a0.f0, a0.f1, t1⟩ : S41)
theorem impl_copyWindow.go : Callable prog 57 := ⟨_, func57, by kernel_rfl, rfl⟩
theorem impl_copyWindow.ok (a0 : S41) (r : S41) (h : impl_copyWindow.f a0 = some r) : VCalls prog 57 [.agg (e41 a0)] [.agg (r41 r)] := by
  unfold impl_copyWindow.f at h
  refine VCalls.of (fn := f57) (N := 8) func57 rfl rfl (fun w0 => ?_)
  obtain ⟨t1, g1, h⟩ := bindN h
  let C1 := mkCon (slices_Clone_int_int.ok a0.f2 t1 g1) slices_Clone_int_int.go
  cases h
  exact rt func57 [.call C1, .fin] (oc C1 on)

/-! ### slices_Clone_impl_Job_impl_Job: function 58 -/
def slices_Clone_impl_Job_impl_Job.f (a0 : List S62) : Option (List S62) := if (([] : List S62).length + a0.length) * 24 ≤ 140737488355328 then (some (([] : List S62) ++ a0)) else none
theorem slices_Clone_impl_Job_impl_Job.go : Callable prog 58 := ⟨_, func58, by kernel_rfl, rfl⟩
theorem slices_Clone_impl_Job_impl_Job.ok (a0 : List S62) (r : (List S62)) (h : slices_Clone_impl_Job_impl_Job.f a0 = some r) : VCalls prog 58 [.c (R 3 e62 z62 a0)] [.c (.own 62 3 r.length (fun j => e62 (r.getD j z62)))] := by
  unfold slices_Clone_impl_Job_impl_Job.f at h
  rcases Nat.eq_zero_or_pos a0.length with hz | hn
  · obtain rfl := List.eq_nil_of_length_eq_zero hz
    refine VCalls.row0 ?_ (fun ad c => ?_)
    · obtain ⟨c0, h⟩ := ifN h
      refine VCalls.of (fn := f58) (N := 8) func58 rfl rfl (fun w0 => ?_)
      cases h
      exact rt func58 [.b true, .fin, .nil 2 384128 62 3, orow 384128 e62 z62 ([] : List S62)] (oR (o1 (GE.nil e62 z62) on))
    · refine VCalls.of (fn := f58) (N := 8) func58 rfl rfl (fun w0 => ?_)
      obtain ⟨c1, h⟩ := ifN h
      cases h
      exact rt func58 [.b false, rowe 5 e62 z62 ([] : List S62), .aft 7, orow 320 e62 z62 (([] : List S62) ++ ([] : List S62)), .fin, .flat 320] (o1 (rfl : false = false) (o1 (GE.lit 3 e62 z62 ([] : List S62) (by intro x; rfl)) (o1 c1 (o1 (GE.z (e := e62) (d := z62)) (o1 (SC.of (e := e62) (d := z62) (([] : List S62) ++ ([] : List S62)) (by intro x; rfl)) on)))))
  · refine VCalls.of (fn := f58) (N := 8) func58 rfl rfl (fun w0 => ?_)
    obtain ⟨c2, h⟩ := ifN h
    cases h
    exact rt func58 [.b false, rowe 5 e62 z62 ([] : List S62), .aft 7, orow 320 e62 z62 (([] : List S62) ++ a0), .fin, .flat 320] (o1 hn (o1 (rfl : false = false) (o1 (GE.lit 3 e62 z62 ([] : List S62) (by intro x; rfl)) (o1 c2 (o1 (GE.app (e := e62) (d := z62) ([] : List S62) a0 rfl (fun _ _ => CE.refl _) rfl) (o1 (SC.of (e := e62) (d := z62) (([] : List S62) ++ a0) (by intro x; rfl)) on))))))

/-! ### impl_copyWays: function 60 -/
def impl_copyWays.h0T (a0 : List S64) (v6 : Int) (v5 : List S64) : List (Nat × AV) := [(3, .t (.c (.hn 320192))), (6, .t (.c (.p false (R 1 e64 z64 a0)))), (7, .t (.c (.p true (.sc (.int .i64 (a0.length : Int)))))), (8, .t (.c (.p true (iI v6))))]
def impl_copyWays.h0H (a0 : List S64) (v6 : Int) (v5 : List S64) : List (Nat × Content) := [(320192, NC 64 3 S64.f0 (Value.int .i64) z64 0 v5)]
def impl_copyWays.l0 : Nat → List S64 → List S64 → Int → Option (List S64)
  | 0, _, _, _ => none
  | kq + 1, a0, v5, v6 => if v6 < (a0.length : Int) then (if 0 ≤ v6 then ((slices_Clone_int_int.f ((rdD z64 a0 v6).f0)).bind fun t7 => if (v5.length + 1) * 24 ≤ 140737488355328 then (impl_copyWays.l0 kq a0 (v5 ++ [(⟨t7⟩ : S64)]) (w64 (v6 + 1))) else none) else none) else (some v5)
def impl_copyWays.f (k : Nat) (a0 : List S64) : Option (List S64) := impl_copyWays.l0 k a0 ([] : List S64) 0
theorem impl_copyWays.go : Callable prog 60 := ⟨_, func60, by kernel_rfl, rfl⟩
theorem impl_copyWays.ok (k : Nat) (a0 : List S64) (r : (List S64)) (h : impl_copyWays.f k a0 = some r) : VCalls prog 60 [.c (R 1 e64 z64 a0)] [.c (NR 64 3 S64.f0 (Value.int .i64) z64 0 r)] := by
  unfold impl_copyWays.f at h
  refine VCalls.of (fn := f60) (N := 21) func60 rfl rfl (fun w0 => ?_)
  have H0 : ∀ (kq : Nat) (v5 : List S64) (v6 : Int), impl_copyWays.l0 kq a0 v5 v6 = some r → AG prog 60 21 [.c (NR 64 3 S64.f0 (Value.int .i64) z64 0 r)] w0 (headStk (codeOf f60) 0) (mkFS (impl_copyWays.h0T a0 v6 v5) (impl_copyWays.h0H a0 v6 v5)) := by
    intro kq
    induction kq with
    | zero => intro v5 v6 h; cases h
    | succ kq ih =>
      intro v5 v6 h
      rw [impl_copyWays.l0] at h
      by_cases c11 : v6 < (a0.length : Int)
      · replace h := ip c11 h
        obtain ⟨c12, h⟩ := ifN h
        obtain ⟨t7, g13, h⟩ := bindN h
        let C13 := mkCon (slices_Clone_int_int.ok ((rdD z64 a0 v6).f0) t7 g13) slices_Clone_int_int.go
        obtain ⟨c14, h⟩ := ifN h
        exact hd func60 [.b true, .call C13, .aft 17, nrow 1088 S64.f0 (Value.int .i64) z64 0 ([(⟨t7⟩ : S64)]), .aft 18, nrow 320192 S64.f0 (Value.int .i64) z64 0 (v5 ++ [(⟨t7⟩ : S64)]), .fin] (oT c11 (o1 c12 (o1 c11 (oc C13 (o1 (SC.of (e := (eI .i64)) (d := 0) t7 (by intro x; rfl)) (o1 (GEN.one S64.f0 (Value.int .i64) z64 0 (⟨t7⟩ : S64) rfl (fun _ => rfl)) (o1 c14 (o1 (GEN.app S64.f0 (Value.int .i64) z64 0 v5 ([(⟨t7⟩ : S64)])) on)))))))) (ih (v5 ++ [(⟨t7⟩ : S64)]) (w64 (v6 + 1)) h)
      · replace h := iq c11 h
        cases h
        exact rt func60 [.b false, .fin, .fin] (oF c11 on)
  exact hd func60 [.fin, .nil 3 320192 64 1, .toN 320192 3, nrow 320192 S64.f0 (Value.int .i64) z64 0 ([] : List S64)] (o1 (nilG.zero (fun _ => [])) (o1 (GEN.nil S64.f0 (Value.int .i64) z64 0) on)) (H0 k ([] : List S64) 0 h)

/-! ### impl_copyYard: function 26 -/
def impl_copyYard.f (k : Nat) (a0 : S47) : Option S47 := (slices_Clone_impl_Robot_impl_Robot.f a0.f1).bind fun t1 => (impl_copyWindow.f a0.f2).bind fun t2 => (slices_Clone_impl_Job_impl_Job.f a0.f6).bind fun t3 => (slices_Clone_int_int.f a0.f7).bind fun t4 => (impl_copyWays.f k a0.f5.f2).bind fun t5 => some (⟨a0.f0, t1, t2, a0.f3, a0.f4, (⟨a0.f5.f0, a0.f5.f1, t5⟩ : S44), t3, t4⟩ : S47)
theorem impl_copyYard.go : Callable prog 26 := ⟨_, func26, by kernel_rfl, rfl⟩
theorem impl_copyYard.ok (k : Nat) (a0 : S47) (r : S47) (h : impl_copyYard.f k a0 = some r) : VCalls prog 26 [.agg (e47 a0)] [.agg (rn47 r)] := by
  unfold impl_copyYard.f at h
  refine VCalls.of (fn := f26) (N := 26) func26 rfl rfl (fun w0 => ?_)
  obtain ⟨t1, g1, h⟩ := bindN h
  let C1 := mkCon (slices_Clone_impl_Robot_impl_Robot.ok a0.f1 t1 g1) slices_Clone_impl_Robot_impl_Robot.go
  obtain ⟨t2, g2, h⟩ := bindN h
  let C2 := mkCon (impl_copyWindow.ok a0.f2 t2 g2) impl_copyWindow.go
  obtain ⟨t3, g3, h⟩ := bindN h
  let C3 := mkCon (slices_Clone_impl_Job_impl_Job.ok a0.f6 t3 g3) slices_Clone_impl_Job_impl_Job.go
  obtain ⟨t4, g4, h⟩ := bindN h
  let C4 := mkCon (slices_Clone_int_int.ok a0.f7 t4 g4) slices_Clone_int_int.go
  obtain ⟨t5, g5, h⟩ := bindN h
  let C5 := mkCon (impl_copyWays.ok k a0.f5.f2 t5 g5) impl_copyWays.go
  cases h
  exact rt func26 [.call C1, .call C2, .call C3, .call C4, .call C5, .fin] (oc C1 (oc C2 (oc C3 (oc C4 (oc C5 on)))))

/-! ### impl_jobsOk_1: function 62 -/
def impl_jobsOk_1.f (a0 : S64) (a1 : S44) : Option Bool := some (!decide ((a0.f0.length : Int) = (w64 (a1.f0 + 1))))
theorem impl_jobsOk_1.go : Callable prog 62 := ⟨_, func62, by kernel_rfl, rfl⟩
theorem impl_jobsOk_1.ok (a0 : S64) (a1 : S44) (r : Bool) (h : impl_jobsOk_1.f a0 a1 = some r) : VCalls prog 62 [.agg (e64 a0), .ptr [.sc (.int .i64 a1.f0), .sc (.int .i64 a1.f1), R 1 e64 z64 a1.f2]] [.c (.p (.sc (.bool r)))] := by
  unfold impl_jobsOk_1.f at h
  refine VCalls.of (fn := f62) (N := 11) func62 rfl rfl (fun w0 => ?_)
  cases h
  exact rt func62 [.fin] on

/-! ### slices_IndexFunc_impl_Way_impl_Way_3: function 76 -/
def slices_IndexFunc_impl_Way_impl_Way_3.h0T (a0 : List S64) (gi1 : FuncId) (u1_0_0 : V) (u1_0_1 : V) (u1_0_2 : V) (v2 : Int) : List (Nat × AV) := [(0, .t (.c (.p false (R 1 e64 z64 a0)))), (1, .bfn gi1 [[u1_0_0, u1_0_1, u1_0_2]]), (7, .t (.c (.p true (.sc (.int .i64 (a0.length : Int)))))), (8, .t (.c (.p true (iI v2))))]
def slices_IndexFunc_impl_Way_impl_Way_3.h0H (a0 : List S64) (gi1 : FuncId) (u1_0_0 : V) (u1_0_1 : V) (u1_0_2 : V) (v2 : Int) : List (Nat × Content) := []
def slices_IndexFunc_impl_Way_impl_Way_3.l0 : Nat → List S64 → (S64 → Option Bool) → Int → Option Int
  | 0, _, _, _ => none
  | kq + 1, a0, p1, v2 => if v2 < (a0.length : Int) then (if 0 ≤ v2 then ((p1 (rdD z64 a0 v2)).bind fun t3 => if t3 = true then (some v2) else (slices_IndexFunc_impl_Way_impl_Way_3.l0 kq a0 p1 (w64 (v2 + 1)))) else none) else (some (-1))
def slices_IndexFunc_impl_Way_impl_Way_3.f (k : Nat) (a0 : List S64) (p1 : S64 → Option Bool) : Option Int := slices_IndexFunc_impl_Way_impl_Way_3.l0 k a0 p1 0
theorem slices_IndexFunc_impl_Way_impl_Way_3.go : Callable prog 76 := ⟨_, func76, by kernel_rfl, rfl⟩
theorem slices_IndexFunc_impl_Way_impl_Way_3.ok (k : Nat) (a0 : List S64) (p1 : S64 → Option Bool) (gi1 : FuncId) (u1_0_0 u1_0_1 u1_0_2 : V) (hp1 : ∀ x0 r, p1 x0 = some r → VCalls prog gi1 [.agg (e64 x0), .ptr [u1_0_0, u1_0_1, u1_0_2]] [.c (.p (.sc (.bool r)))]) (go1 : Callable prog gi1) (r : Int) (h : slices_IndexFunc_impl_Way_impl_Way_3.f k a0 p1 = some r) : VCalls prog 76 [.c (R 1 e64 z64 a0), .fn gi1 [[u1_0_0, u1_0_1, u1_0_2]]] [.c (.p (iI r))] := by
  unfold slices_IndexFunc_impl_Way_impl_Way_3.f at h
  refine VCalls.of (fn := f76) (N := 19) func76 rfl rfl (fun w0 => ?_)
  have H0 : ∀ (kq : Nat) (v2 : Int), slices_IndexFunc_impl_Way_impl_Way_3.l0 kq a0 p1 v2 = some r → AG prog 76 19 [.c (.p (iI r))] w0 (headStk (codeOf f76) 0) (mkFS (slices_IndexFunc_impl_Way_impl_Way_3.h0T a0 gi1 u1_0_0 u1_0_1 u1_0_2 v2) (slices_IndexFunc_impl_Way_impl_Way_3.h0H a0 gi1 u1_0_0 u1_0_1 u1_0_2 v2)) := by
    intro kq
    induction kq with
    | zero => intro v2 h; cases h
    | succ kq ih =>
      intro v2 h
      rw [slices_IndexFunc_impl_Way_impl_Way_3.l0] at h
      by_cases c4 : v2 < (a0.length : Int)
      · replace h := ip c4 h
        obtain ⟨c5, h⟩ := ifN h
        obtain ⟨t3, g6, h⟩ := bindN h
        let C6 := mkCon (hp1 (rdD z64 a0 v2) t3 g6) go1
        by_cases c7 : t3 = true
        · replace h := ip c7 h
          cases h
          exact rt func76 [.b true, .call C6, .b true, .fin] (oT c4 (o1 c5 (o1 c4 (oc C6 (o1 c7 on)))))
        · replace h := iq c7 h
          exact hd func76 [.b true, .call C6, .b false, .fin] (oT c4 (o1 c5 (o1 c4 (oc C6 (o1 (eqf c7) on))))) (ih (w64 (v2 + 1)) h)
      · replace h := iq c4 h
        cases h
        exact rt func76 [.b false, .fin, .fin] (oF c4 on)
  exact hd func76 [.fin] on (H0 k 0 h)

/-! ### slices_ContainsFunc_impl_Way_impl_Way_3: function 61 -/
def slices_ContainsFunc_impl_Way_impl_Way_3.f (k : Nat) (a0 : List S64) (p1 : S64 → Option Bool) : Option Bool := (slices_IndexFunc_impl_Way_impl_Way_3.f k a0 p1).bind fun t1 => some (decide (0 ≤ t1))
theorem slices_ContainsFunc_impl_Way_impl_Way_3.go : Callable prog 61 := ⟨_, func61, by kernel_rfl, rfl⟩
theorem slices_ContainsFunc_impl_Way_impl_Way_3.ok (k : Nat) (a0 : List S64) (p1 : S64 → Option Bool) (gi1 : FuncId) (u1_0_0 u1_0_1 u1_0_2 : V) (hp1 : ∀ x0 r, p1 x0 = some r → VCalls prog gi1 [.agg (e64 x0), .ptr [u1_0_0, u1_0_1, u1_0_2]] [.c (.p (.sc (.bool r)))]) (go1 : Callable prog gi1) (r : Bool) (h : slices_ContainsFunc_impl_Way_impl_Way_3.f k a0 p1 = some r) : VCalls prog 61 [.c (R 1 e64 z64 a0), .fn gi1 [[u1_0_0, u1_0_1, u1_0_2]]] [.c (.p (.sc (.bool r)))] := by
  unfold slices_ContainsFunc_impl_Way_impl_Way_3.f at h
  refine VCalls.of (fn := f61) (N := 9) func61 rfl rfl (fun w0 => ?_)
  obtain ⟨t1, g1, h⟩ := bindN h
  let C1 := mkCon (slices_IndexFunc_impl_Way_impl_Way_3.ok k a0 p1 gi1 u1_0_0 u1_0_1 u1_0_2 hp1 go1 t1 g1) slices_IndexFunc_impl_Way_impl_Way_3.go
  cases h
  exact rt func61 [.call C1, .fin] (oc C1 on)

/-! ### impl_compare: function 66 -/
def impl_compare.f (a0 : Int) (a1 : Int) : Option Int := if a0 < a1 then (some (-1)) else (if a1 < a0 then (some 1) else (some 0))
theorem impl_compare.go : Callable prog 66 := ⟨_, func66, by kernel_rfl, rfl⟩
theorem impl_compare.ok (a0 : Int) (a1 : Int) (r : Int) (h : impl_compare.f a0 a1 = some r) : VCalls prog 66 [.c (iI a0), .c (iI a1)] [.c (.p (iI r))] := by
  unfold impl_compare.f at h
  refine VCalls.of (fn := f66) (N := 13) func66 rfl rfl (fun w0 => ?_)
  by_cases c1 : a0 < a1
  · replace h := ip c1 h
    cases h
    exact rt func66 [.b true, .fin] (oT c1 on)
  · replace h := iq c1 h
    by_cases c2 : a1 < a0
    · replace h := ip c2 h
      cases h
      exact rt func66 [.b false, .b true, .fin] (oF c1 (oT c2 on))
    · replace h := iq c2 h
      cases h
      exact rt func66 [.b false, .b false, .fin] (oF c1 (oF c2 on))

/-! ### impl_LayerOf_1: function 65 -/
def impl_LayerOf_1.f (a0 : S62) (a1 : S62) : Option Int := (impl_compare.f a0.f1 a1.f1).bind fun t1 => some t1
theorem impl_LayerOf_1.go : Callable prog 65 := ⟨_, func65, by kernel_rfl, rfl⟩
theorem impl_LayerOf_1.ok (a0 : S62) (a1 : S62) (r : Int) (h : impl_LayerOf_1.f a0 a1 = some r) : VCalls prog 65 [.agg (e62 a0), .agg (e62 a1)] [.c (.p (iI r))] := by
  unfold impl_LayerOf_1.f at h
  refine VCalls.of (fn := f65) (N := 10) func65 rfl rfl (fun w0 => ?_)
  obtain ⟨t1, g1, h⟩ := bindN h
  let C1 := mkCon (impl_compare.ok a0.f1 a1.f1 t1 g1) impl_compare.go
  cases h
  exact rt func65 [.call C1, .fin] (oc C1 on)

/-! ### slices_MinFunc_impl_Job_impl_Job_: function 64 -/
def slices_MinFunc_impl_Job_impl_Job_.h0T (a0 : List S62) (gi1 : FuncId) (v14 : Int) (v11 : Int) (v12 : Int) (v13 : Bool) : List (Nat × AV) := [(0, .t (.c (.p false (R 3 e62 z62 a0)))), (1, .bfn gi1 []), (4, .ptr 256 0), (5, .ptr 320 0), (6, .t (.c (.p true (iI v14))))]
def slices_MinFunc_impl_Job_impl_Job_.h0H (a0 : List S62) (gi1 : FuncId) (v14 : Int) (v11 : Int) (v12 : Int) (v13 : Bool) : List (Nat × Content) := [(256, .box 62 [.p true (iI 0), .p true (iI 0), .p true (.sc (.bool false))]), (320, .box 62 [.p false (iI v11), .p false (iI v12), .p false (.sc (.bool v13))])]
def slices_MinFunc_impl_Job_impl_Job_.l0 : Nat → List S62 → (S62 → S62 → Option Int) → Int → Int → Bool → Int → Option S62
  | 0, _, _, _, _, _, _ => none
  | kq + 1, a0, p1, v11, v12, v13, v14 => if v14 < (a0.length : Int) then (if 0 ≤ v14 then ((p1 (rdD z62 a0 v14) (⟨v11, v12, v13⟩ : S62)).bind fun t15 => if t15 < 0 then (slices_MinFunc_impl_Job_impl_Job_.l0 kq a0 p1 ((rdD z62 a0 v14).f0) ((rdD z62 a0 v14).f1) ((rdD z62 a0 v14).f2) (w64 (v14 + 1))) else (slices_MinFunc_impl_Job_impl_Job_.l0 kq a0 p1 v11 v12 v13 (w64 (v14 + 1)))) else none) else (some (⟨v11, v12, v13⟩ : S62))
def slices_MinFunc_impl_Job_impl_Job_.f (k : Nat) (a0 : List S62) (p1 : S62 → S62 → Option Int) : Option S62 := if (a0.length : Int) < 1 then (none) else (if 0 < (a0.length : Int) then (slices_MinFunc_impl_Job_impl_Job_.l0 k a0 p1 ((rdD z62 a0 0).f0) ((rdD z62 a0 0).f1) ((rdD z62 a0 0).f2) 1) else none)
theorem slices_MinFunc_impl_Job_impl_Job_.go : Callable prog 64 := ⟨_, func64, by kernel_rfl, rfl⟩
theorem slices_MinFunc_impl_Job_impl_Job_.ok (k : Nat) (a0 : List S62) (p1 : S62 → S62 → Option Int) (gi1 : FuncId) (hp1 : ∀ x0 x1 r, p1 x0 x1 = some r → VCalls prog gi1 [.agg (e62 x0), .agg (e62 x1)] [.c (.p (iI r))]) (go1 : Callable prog gi1) (r : S62) (h : slices_MinFunc_impl_Job_impl_Job_.f k a0 p1 = some r) : VCalls prog 64 [.c (R 3 e62 z62 a0), .fn gi1 []] [.agg (r62 r)] := by
  unfold slices_MinFunc_impl_Job_impl_Job_.f at h
  refine VCalls.of (fn := f64) (N := 33) func64 rfl rfl (fun w0 => ?_)
  by_cases c1 : (a0.length : Int) < 1
  · replace h := ip c1 h
    cases h
  · replace h := iq c1 h
    obtain ⟨c2, h⟩ := ifN h
    have H0 : ∀ (kq : Nat) (v11 : Int) (v12 : Int) (v13 : Bool) (v14 : Int), slices_MinFunc_impl_Job_impl_Job_.l0 kq a0 p1 v11 v12 v13 v14 = some r → AG prog 64 33 [.agg (r62 r)] w0 (headStk (codeOf f64) 0) (mkFS (slices_MinFunc_impl_Job_impl_Job_.h0T a0 gi1 v14 v11 v12 v13) (slices_MinFunc_impl_Job_impl_Job_.h0H a0 gi1 v14 v11 v12 v13)) := by
      intro kq
      induction kq with
      | zero => intro v11 v12 v13 v14 h; cases h
      | succ kq ih =>
        intro v11 v12 v13 v14 h
        rw [slices_MinFunc_impl_Job_impl_Job_.l0] at h
        by_cases c18 : v14 < (a0.length : Int)
        · replace h := ip c18 h
          obtain ⟨c19, h⟩ := ifN h
          obtain ⟨t15, g20, h⟩ := bindN h
          let C20 := mkCon (hp1 (rdD z62 a0 v14) (⟨v11, v12, v13⟩ : S62) t15 g20) go1
          by_cases c21 : t15 < 0
          · replace h := ip c21 h
            exact hd func64 [.b true, .call C20, .b true, .fin] (oT c18 (o1 c19 (o1 c18 (oc C20 (oT c21 (o1 c19 (o1 c18 on))))))) (ih ((rdD z62 a0 v14).f0) ((rdD z62 a0 v14).f1) ((rdD z62 a0 v14).f2) (w64 (v14 + 1)) h)
          · replace h := iq c21 h
            exact hd func64 [.b true, .call C20, .b false, .fin] (oT c18 (o1 c19 (o1 c18 (oc C20 (oF c21 on))))) (ih v11 v12 v13 (w64 (v14 + 1)) h)
        · replace h := iq c18 h
          cases h
          exact rt func64 [.b false, .fin, .fin] (oF c18 on)
    exact hd func64 [.b false, .fin] (oF c1 (o1 (by decide : (0 : Int) ≤ 0) (o1 c2 on))) (H0 k ((rdD z62 a0 0).f0) ((rdD z62 a0 0).f1) ((rdD z62 a0 0).f2) 1 h)

/-! ### impl_LayerOf: function 28 -/
def impl_LayerOf.f (k : Nat) (a0 : S47) : Option Int := if (a0.f6.length : Int) = 0 then (some (-1)) else ((slices_MinFunc_impl_Job_impl_Job_.f k a0.f6 (fun x2 x3 => impl_LayerOf_1.f x2 x3)).bind fun t1 => some t1.f1)
theorem impl_LayerOf.go : Callable prog 28 := ⟨_, func28, by kernel_rfl, rfl⟩
theorem impl_LayerOf.ok (k : Nat) (a0 : S47) (r : Int) (h : impl_LayerOf.f k a0 = some r) : VCalls prog 28 [.agg (e47 a0)] [.c (.p (iI r))] := by
  unfold impl_LayerOf.f at h
  refine VCalls.of (fn := f28) (N := 11) func28 rfl rfl (fun w0 => ?_)
  by_cases c1 : (a0.f6.length : Int) = 0
  · replace h := ip c1 h
    cases h
    exact rt func28 [.b true, .fin] (oT c1 on)
  · replace h := iq c1 h
    obtain ⟨t1, g4, h⟩ := bindN h
    let C4 := mkCon (slices_MinFunc_impl_Job_impl_Job_.ok k a0.f6 (fun x2 x3 => impl_LayerOf_1.f x2 x3) 65  (fun x2 x3 r h => impl_LayerOf_1.ok x2 x3 r h) impl_LayerOf_1.go t1 g4) slices_MinFunc_impl_Job_impl_Job_.go
    cases h
    exact rt func28 [.b false, .call C4, .fin] (oF c1 (oc C4 on))

/-! ### impl_RobotAt_1: function 82 -/
def impl_RobotAt_1.f (a0 : S90) (a1 : Int) : Option Bool := some (decide (a0.f0 = a1))
theorem impl_RobotAt_1.go : Callable prog 82 := ⟨_, func82, by kernel_rfl, rfl⟩
theorem impl_RobotAt_1.ok (a0 : S90) (a1 : Int) (r : Bool) (h : impl_RobotAt_1.f a0 a1 = some r) : VCalls prog 82 [.agg (e90 a0), .ptr [.sc (.int .i64 a1)]] [.c (.p (.sc (.bool r)))] := by
  unfold impl_RobotAt_1.f at h
  refine VCalls.of (fn := f82) (N := 8) func82 rfl rfl (fun w0 => ?_)
  cases h
  exact rt func82 [.fin] on
end Go.Proofs.Ytfhjipfkaemapaa.V
