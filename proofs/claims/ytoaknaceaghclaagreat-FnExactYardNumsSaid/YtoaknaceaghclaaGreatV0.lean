/- What each Go function computes, and that the machine does so: printed by a program of this session (avgen.py). -/
import Derived.Test.YtoaknaceaghclaaGreatVT
namespace Go.Proofs.YtoaknaceaghclaaGreat.V
open Go Go.Av Go.Proofs Go.Proofs.Tryz
set_option linter.unusedVariables false
set_option maxRecDepth 100000
/-! ### laws_szGrid: function 74 -/
def laws_szGrid.f (a0 : S23) (a1 : Int) : Option Int := if (w64 (a1 - (a0.f2.size : Int))) < 0 then (some (-1)) else (some (w64 (a1 - (a0.f2.size : Int))))
theorem laws_szGrid.go : Callable prog 74 := ⟨_, func74, by kernel_rfl, rfl⟩
theorem laws_szGrid.ok (a0 : S23) (a1 : Int) (r : Int) (h : laws_szGrid.f a0 a1 = some r) : VCalls prog 74 [.agg (e23 a0), .c (iI a1)] [.c (.p (iI r))] := by
  unfold laws_szGrid.f at h
  refine VCalls.of (fn := f74) (N := 13) func74 rfl rfl (fun w0 => ?_)
  by_cases c1 : (w64 (a1 - (a0.f2.size : Int))) < 0
  · replace h := ip c1 h
    cases h
    exact rt func74 [.b true, .fin] (oT c1 on)
  · replace h := iq c1 h
    cases h
    exact rt func74 [.b false, .fin] (oF c1 on)

/-! ### laws_szSetup: function 26 -/
def laws_szSetup.f (a0 : S25) (a1 : Int) : Option Int := (laws_szGrid.f a0.f0 a1).bind fun t1 => if t1 < 0 then (some (-1)) else (some t1)
theorem laws_szSetup.go : Callable prog 26 := ⟨_, func26, by kernel_rfl, rfl⟩
theorem laws_szSetup.ok (a0 : S25) (a1 : Int) (r : Int) (h : laws_szSetup.f a0 a1 = some r) : VCalls prog 26 [.agg (e25 a0), .c (iI a1)] [.c (.p (iI r))] := by
  unfold laws_szSetup.f at h
  refine VCalls.of (fn := f26) (N := 12) func26 rfl rfl (fun w0 => ?_)
  obtain ⟨t1, g1, h⟩ := bindN h
  let C1 := mkCon (laws_szGrid.ok a0.f0 a1 t1 g1) laws_szGrid.go
  by_cases c2 : t1 < 0
  · replace h := ip c2 h
    cases h
    exact rt func26 [.call C1, .b true, .fin] (oc C1 (oT c2 on))
  · replace h := iq c2 h
    cases h
    exact rt func26 [.call C1, .b false, .fin] (oc C1 (oF c2 on))

/-! ### laws_szRobotS: function 27 -/
def laws_szRobotS.f (a0 : List S113) (a1 : Int) : Option Int := if (w64 (a1 - (a0.length : Int))) < 0 then (some (-1)) else (some (w64 (a1 - (a0.length : Int))))
theorem laws_szRobotS.go : Callable prog 27 := ⟨_, func27, by kernel_rfl, rfl⟩
theorem laws_szRobotS.ok (a0 : List S113) (a1 : Int) (r : Int) (h : laws_szRobotS.f a0 a1 = some r) : VCalls prog 27 [.c (R 4 e113 z113 a0), .c (iI a1)] [.c (.p (iI r))] := by
  unfold laws_szRobotS.f at h
  refine VCalls.of (fn := f27) (N := 12) func27 rfl rfl (fun w0 => ?_)
  by_cases c1 : (w64 (a1 - (a0.length : Int))) < 0
  · replace h := ip c1 h
    cases h
    exact rt func27 [.b true, .fin] (oT c1 on)
  · replace h := iq c1 h
    cases h
    exact rt func27 [.b false, .fin] (oF c1 on)

/-! ### laws_szIntS: function 31 -/
def laws_szIntS.f (a0 : List Int) (a1 : Int) : Option Int := if (w64 (a1 - (a0.length : Int))) < 0 then (some (-1)) else (some (w64 (a1 - (a0.length : Int))))
theorem laws_szIntS.go : Callable prog 31 := ⟨_, func31, by kernel_rfl, rfl⟩
theorem laws_szIntS.ok (a0 : List Int) (a1 : Int) (r : Int) (h : laws_szIntS.f a0 a1 = some r) : VCalls prog 31 [.c (R 1 (eI .i64) 0 a0), .c (iI a1)] [.c (.p (iI r))] := by
  unfold laws_szIntS.f at h
  refine VCalls.of (fn := f31) (N := 12) func31 rfl rfl (fun w0 => ?_)
  by_cases c1 : (w64 (a1 - (a0.length : Int))) < 0
  · replace h := ip c1 h
    cases h
    exact rt func31 [.b true, .fin] (oT c1 on)
  · replace h := iq c1 h
    cases h
    exact rt func31 [.b false, .fin] (oF c1 on)

/-! ### laws_szWindow: function 28 -/
def laws_szWindow.f (a0 : S29) (a1 : Int) : Option Int := (laws_szIntS.f a0.f2 a1).bind fun t1 => if t1 < 0 then (some (-1)) else (some t1)
theorem laws_szWindow.go : Callable prog 28 := ⟨_, func28, by kernel_rfl, rfl⟩
theorem laws_szWindow.ok (a0 : S29) (a1 : Int) (r : Int) (h : laws_szWindow.f a0 a1 = some r) : VCalls prog 28 [.agg (e29 a0), .c (iI a1)] [.c (.p (iI r))] := by
  unfold laws_szWindow.f at h
  refine VCalls.of (fn := f28) (N := 12) func28 rfl rfl (fun w0 => ?_)
  obtain ⟨t1, g1, h⟩ := bindN h
  let C1 := mkCon (laws_szIntS.ok a0.f2 a1 t1 g1) laws_szIntS.go
  by_cases c2 : t1 < 0
  · replace h := ip c2 h
    cases h
    exact rt func28 [.call C1, .b true, .fin] (oc C1 (oT c2 on))
  · replace h := iq c2 h
    cases h
    exact rt func28 [.call C1, .b false, .fin] (oc C1 (oF c2 on))

/-! ### laws_szWay: function 144 -/
def laws_szWay.f (a0 : S147) (a1 : Int) : Option Int := (laws_szIntS.f a0.f0 a1).bind fun t1 => if t1 < 0 then (some (-1)) else (some t1)
theorem laws_szWay.go : Callable prog 144 := ⟨_, func144, by kernel_rfl, rfl⟩
theorem laws_szWay.ok (a0 : S147) (a1 : Int) (r : Int) (h : laws_szWay.f a0 a1 = some r) : VCalls prog 144 [.agg (e147 a0), .c (iI a1)] [.c (.p (iI r))] := by
  unfold laws_szWay.f at h
  refine VCalls.of (fn := f144) (N := 12) func144 rfl rfl (fun w0 => ?_)
  obtain ⟨t1, g1, h⟩ := bindN h
  let C1 := mkCon (laws_szIntS.ok a0.f0 a1 t1 g1) laws_szIntS.go
  by_cases c2 : t1 < 0
  · replace h := ip c2 h
    cases h
    exact rt func144 [.call C1, .b true, .fin] (oc C1 (oT c2 on))
  · replace h := iq c2 h
    cases h
    exact rt func144 [.call C1, .b false, .fin] (oc C1 (oF c2 on))

/-! ### laws_szWayS: function 75 -/
def laws_szWayS.h0T (a0 : List S147) (v4 : Int) (v5 : Int) : List (Nat × AV) := [(0, .t (.c (.p false (R 1 e147 z147 a0)))), (1, .t (.c (.p true (iI v4)))), (5, .t (.c (.p true (iI v5))))]
def laws_szWayS.h0H (a0 : List S147) (v4 : Int) (v5 : Int) : List (Nat × Content) := []
def laws_szWayS.l0 : Nat → List S147 → Int → Int → Option Int
  | 0, _, _, _ => none
  | kq + 1, a0, v4, v5 => if v5 < (a0.length : Int) then (if 0 ≤ v5 then ((laws_szWay.f (rdD z147 a0 v5) v4).bind fun t6 => if t6 < 0 then (some (-1)) else (laws_szWayS.l0 kq a0 t6 (w64 (v5 + 1)))) else none) else (some v4)
def laws_szWayS.f (k : Nat) (a0 : List S147) (a1 : Int) : Option Int := if (w64 (a1 - (a0.length : Int))) < 0 then (some (-1)) else (laws_szWayS.l0 k a0 (w64 (a1 - (a0.length : Int))) 0)
theorem laws_szWayS.go : Callable prog 75 := ⟨_, func75, by kernel_rfl, rfl⟩
theorem laws_szWayS.ok (k : Nat) (a0 : List S147) (a1 : Int) (r : Int) (h : laws_szWayS.f k a0 a1 = some r) : VCalls prog 75 [.c (R 1 e147 z147 a0), .c (iI a1)] [.c (.p (iI r))] := by
  unfold laws_szWayS.f at h
  refine VCalls.of (fn := f75) (N := 27) func75 rfl rfl (fun w0 => ?_)
  by_cases c1 : (w64 (a1 - (a0.length : Int))) < 0
  · replace h := ip c1 h
    cases h
    exact rt func75 [.b true, .fin] (oT c1 on)
  · replace h := iq c1 h
    have H0 : ∀ (kq : Nat) (v4 : Int) (v5 : Int), laws_szWayS.l0 kq a0 v4 v5 = some r → AG prog 75 27 [.c (.p (iI r))] w0 (headStk (codeOf f75) 0) (mkFS (laws_szWayS.h0T a0 v4 v5) (laws_szWayS.h0H a0 v4 v5)) := by
      intro kq
      induction kq with
      | zero => intro v4 v5 h; cases h
      | succ kq ih =>
        intro v4 v5 h
        rw [laws_szWayS.l0] at h
        by_cases c8 : v5 < (a0.length : Int)
        · replace h := ip c8 h
          obtain ⟨c9, h⟩ := ifN h
          obtain ⟨t6, g10, h⟩ := bindN h
          let C10 := mkCon (laws_szWay.ok (rdD z147 a0 v5) v4 t6 g10) laws_szWay.go
          by_cases c11 : t6 < 0
          · replace h := ip c11 h
            cases h
            exact rt func75 [.b true, .call C10, .b true, .fin] (oT c8 (o1 c9 (o1 c8 (oc C10 (oT c11 on)))))
          · replace h := iq c11 h
            exact hd func75 [.b true, .call C10, .b false, .fin] (oT c8 (o1 c9 (o1 c8 (oc C10 (oF c11 on))))) (ih t6 (w64 (v5 + 1)) h)
        · replace h := iq c8 h
          cases h
          exact rt func75 [.b false, .fin, .fin] (oF c8 on)
    exact hd func75 [.b false, .fin] (oF c1 on) (H0 k (w64 (a1 - (a0.length : Int))) 0 h)

/-! ### laws_szPlan: function 29 -/
def laws_szPlan.f (k : Nat) (a0 : S32) (a1 : Int) : Option Int := (laws_szWayS.f k a0.f2 a1).bind fun t1 => if t1 < 0 then (some (-1)) else (some t1)
theorem laws_szPlan.go : Callable prog 29 := ⟨_, func29, by kernel_rfl, rfl⟩
theorem laws_szPlan.ok (k : Nat) (a0 : S32) (a1 : Int) (r : Int) (h : laws_szPlan.f k a0 a1 = some r) : VCalls prog 29 [.agg (e32 a0), .c (iI a1)] [.c (.p (iI r))] := by
  unfold laws_szPlan.f at h
  refine VCalls.of (fn := f29) (N := 12) func29 rfl rfl (fun w0 => ?_)
  obtain ⟨t1, g1, h⟩ := bindN h
  let C1 := mkCon (laws_szWayS.ok k a0.f2 a1 t1 g1) laws_szWayS.go
  by_cases c2 : t1 < 0
  · replace h := ip c2 h
    cases h
    exact rt func29 [.call C1, .b true, .fin] (oc C1 (oT c2 on))
  · replace h := iq c2 h
    cases h
    exact rt func29 [.call C1, .b false, .fin] (oc C1 (oF c2 on))

/-! ### laws_szJobS: function 30 -/
def laws_szJobS.f (a0 : List S116) (a1 : Int) : Option Int := if (w64 (a1 - (a0.length : Int))) < 0 then (some (-1)) else (some (w64 (a1 - (a0.length : Int))))
theorem laws_szJobS.go : Callable prog 30 := ⟨_, func30, by kernel_rfl, rfl⟩
theorem laws_szJobS.ok (a0 : List S116) (a1 : Int) (r : Int) (h : laws_szJobS.f a0 a1 = some r) : VCalls prog 30 [.c (R 3 e116 z116 a0), .c (iI a1)] [.c (.p (iI r))] := by
  unfold laws_szJobS.f at h
  refine VCalls.of (fn := f30) (N := 12) func30 rfl rfl (fun w0 => ?_)
  by_cases c1 : (w64 (a1 - (a0.length : Int))) < 0
  · replace h := ip c1 h
    cases h
    exact rt func30 [.b true, .fin] (oT c1 on)
  · replace h := iq c1 h
    cases h
    exact rt func30 [.b false, .fin] (oF c1 on)

/-! ### laws_szYard: function 7 -/
def laws_szYard.f (k : Nat) (a0 : S35) (a1 : Int) : Option Int := (laws_szSetup.f a0.f0 a1).bind fun t1 => if t1 < 0 then (some (-1)) else ((laws_szRobotS.f a0.f1 t1).bind fun t2 => if t2 < 0 then (some (-1)) else ((laws_szWindow.f a0.f2 t2).bind fun t3 => if t3 < 0 then (some (-1)) else ((laws_szPlan.f k a0.f5 t3).bind fun t4 => if t4 < 0 then (some (-1)) else ((laws_szJobS.f a0.f6 t4).bind fun t5 => if t5 < 0 then (some (-1)) else ((laws_szIntS.f a0.f7 t5).bind fun t6 => if t6 < 0 then (some (-1)) else (some t6))))))
theorem laws_szYard.go : Callable prog 7 := ⟨_, func7, by kernel_rfl, rfl⟩
theorem laws_szYard.ok (k : Nat) (a0 : S35) (a1 : Int) (r : Int) (h : laws_szYard.f k a0 a1 = some r) : VCalls prog 7 [.agg (e35 a0), .c (iI a1)] [.c (.p (iI r))] := by
  unfold laws_szYard.f at h
  refine VCalls.of (fn := f7) (N := 42) func7 rfl rfl (fun w0 => ?_)
  obtain ⟨t1, g1, h⟩ := bindN h
  let C1 := mkCon (laws_szSetup.ok a0.f0 a1 t1 g1) laws_szSetup.go
  by_cases c2 : t1 < 0
  · replace h := ip c2 h
    cases h
    exact rt func7 [.call C1, .b true, .fin] (oc C1 (oT c2 on))
  · replace h := iq c2 h
    obtain ⟨t2, g3, h⟩ := bindN h
    let C3 := mkCon (laws_szRobotS.ok a0.f1 t1 t2 g3) laws_szRobotS.go
    by_cases c4 : t2 < 0
    · replace h := ip c4 h
      cases h
      exact rt func7 [.call C1, .b false, .call C3, .b true, .fin] (oc C1 (oF c2 (oc C3 (oT c4 on))))
    · replace h := iq c4 h
      obtain ⟨t3, g5, h⟩ := bindN h
      let C5 := mkCon (laws_szWindow.ok a0.f2 t2 t3 g5) laws_szWindow.go
      by_cases c6 : t3 < 0
      · replace h := ip c6 h
        cases h
        exact rt func7 [.call C1, .b false, .call C3, .b false, .call C5, .b true, .fin] (oc C1 (oF c2 (oc C3 (oF c4 (oc C5 (oT c6 on))))))
      · replace h := iq c6 h
        obtain ⟨t4, g7, h⟩ := bindN h
        let C7 := mkCon (laws_szPlan.ok k a0.f5 t3 t4 g7) laws_szPlan.go
        by_cases c8 : t4 < 0
        · replace h := ip c8 h
          cases h
          exact rt func7 [.call C1, .b false, .call C3, .b false, .call C5, .b false, .call C7, .b true, .fin] (oc C1 (oF c2 (oc C3 (oF c4 (oc C5 (oF c6 (oc C7 (oT c8 on))))))))
        · replace h := iq c8 h
          obtain ⟨t5, g9, h⟩ := bindN h
          let C9 := mkCon (laws_szJobS.ok a0.f6 t4 t5 g9) laws_szJobS.go
          by_cases c10 : t5 < 0
          · replace h := ip c10 h
            cases h
            exact rt func7 [.call C1, .b false, .call C3, .b false, .call C5, .b false, .call C7, .b false, .call C9, .b true, .fin] (oc C1 (oF c2 (oc C3 (oF c4 (oc C5 (oF c6 (oc C7 (oF c8 (oc C9 (oT c10 on))))))))))
          · replace h := iq c10 h
            obtain ⟨t6, g11, h⟩ := bindN h
            let C11 := mkCon (laws_szIntS.ok a0.f7 t5 t6 g11) laws_szIntS.go
            by_cases c12 : t6 < 0
            · replace h := ip c12 h
              cases h
              exact rt func7 [.call C1, .b false, .call C3, .b false, .call C5, .b false, .call C7, .b false, .call C9, .b false, .call C11, .b true, .fin] (oc C1 (oF c2 (oc C3 (oF c4 (oc C5 (oF c6 (oc C7 (oF c8 (oc C9 (oF c10 (oc C11 (oT c12 on))))))))))))
            · replace h := iq c12 h
              cases h
              exact rt func7 [.call C1, .b false, .call C3, .b false, .call C5, .b false, .call C7, .b false, .call C9, .b false, .call C11, .b false, .fin] (oc C1 (oF c2 (oc C3 (oF c4 (oc C5 (oF c6 (oc C7 (oF c8 (oc C9 (oF c10 (oc C11 (oF c12 on))))))))))))

/-! ### laws_toGrid: function 86 -/
def laws_toGrid.f (a0 : S23) : Option S38 := some (⟨a0.f0, a0.f1, a0.f2⟩ : S38)
theorem laws_toGrid.go : Callable prog 86 := ⟨_, func86, by kernel_rfl, rfl⟩
theorem laws_toGrid.ok (a0 : S23) (r : S38) (h : laws_toGrid.f a0 = some r) : VCalls prog 86 [.agg (e23 a0)] [.agg (r38 r)] := by
  unfold laws_toGrid.f at h
  refine VCalls.of (fn := f86) (N := 14) func86 rfl rfl (fun w0 => ?_)
  cases h
  exact rt func86 [.fin] on

/-! ### laws_toSetup: function 34 -/
def laws_toSetup.f (a0 : S25) : Option S40 := (laws_toGrid.f a0.f0).bind fun t1 => some (⟨t1, a0.f1, a0.f2, a0.f3, a0.f4⟩ : S40)
theorem laws_toSetup.go : Callable prog 34 := ⟨_, func34, by kernel_rfl, rfl⟩
theorem laws_toSetup.ok (a0 : S25) (r : S40) (h : laws_toSetup.f a0 = some r) : VCalls prog 34 [.agg (e25 a0)] [.agg (r40 r)] := by
  unfold laws_toSetup.f at h
  refine VCalls.of (fn := f34) (N := 21) func34 rfl rfl (fun w0 => ?_)
  obtain ⟨t1, g1, h⟩ := bindN h
  let C1 := mkCon (laws_toGrid.ok a0.f0 t1 g1) laws_toGrid.go
  cases h
  exact rt func34 [.call C1, .fin] (oc C1 on)

/-! ### laws_toRobot: function 87 -/
def laws_toRobot.f (a0 : S113) : Option S69 := some (⟨a0.f0, a0.f1, a0.f2, a0.f3⟩ : S69)
theorem laws_toRobot.go : Callable prog 87 := ⟨_, func87, by kernel_rfl, rfl⟩
theorem laws_toRobot.ok (a0 : S113) (r : S69) (h : laws_toRobot.f a0 = some r) : VCalls prog 87 [.agg (e113 a0)] [.agg (r69 r)] := by
  unfold laws_toRobot.f at h
  refine VCalls.of (fn := f87) (N := 17) func87 rfl rfl (fun w0 => ?_)
  cases h
  exact rt func87 [.fin] on

/-! ### laws_toRobotS: function 35 -/
def laws_toRobotS.h0T (a0 : List S113) (v5 : Int) (v4 : List S69) : List (Nat × AV) := [(0, .t (.c (.p false (R 4 e113 z113 a0)))), (3, .t (.c (.h 448))), (4, .t (.c (.p true (iI v5))))]
def laws_toRobotS.h0H (a0 : List S113) (v5 : Int) (v4 : List S69) : List (Nat × Content) := [(448, .row 69 4 v4.length (fun j => e69 (v4.getD j z69)) true)]
def laws_toRobotS.l0 : Nat → List S113 → List S69 → Int → Option (List S69)
  | 0, _, _, _ => none
  | kq + 1, a0, v4, v5 => if v5 < (a0.length : Int) then (if 0 ≤ v5 then ((laws_toRobot.f (rdD z113 a0 v5)).bind fun t6 => if v5 < (v4.length : Int) then (laws_toRobotS.l0 kq a0 (v4.set v5.toNat t6) (w64 (v5 + 1))) else none) else none) else (some v4)
def laws_toRobotS.f (k : Nat) (a0 : List S113) : Option (List S69) := if 0 ≤ (a0.length : Int) then (if (a0.length : Int).toNat * 32 ≤ 140737488355328 then (laws_toRobotS.l0 k a0 (List.replicate (a0.length : Int).toNat z69) 0) else none) else none
theorem laws_toRobotS.go : Callable prog 35 := ⟨_, func35, by kernel_rfl, rfl⟩
theorem laws_toRobotS.ok (k : Nat) (a0 : List S113) (r : (List S69)) (h : laws_toRobotS.f k a0 = some r) : VCalls prog 35 [.c (R 4 e113 z113 a0)] [.c (.own 69 4 r.length (fun j => e69 (r.getD j z69)))] := by
  unfold laws_toRobotS.f at h
  refine VCalls.of (fn := f35) (N := 23) func35 rfl rfl (fun w0 => ?_)
  obtain ⟨c1, h⟩ := ifN h
  obtain ⟨c2, h⟩ := ifN h
  have H0 : ∀ (kq : Nat) (v4 : List S69) (v5 : Int), laws_toRobotS.l0 kq a0 v4 v5 = some r → AG prog 35 23 [.c (.own 69 4 r.length (fun j => e69 (r.getD j z69)))] w0 (headStk (codeOf f35) 0) (mkFS (laws_toRobotS.h0T a0 v5 v4) (laws_toRobotS.h0H a0 v5 v4)) := by
    intro kq
    induction kq with
    | zero => intro v4 v5 h; cases h
    | succ kq ih =>
      intro v4 v5 h
      rw [laws_toRobotS.l0] at h
      by_cases c10 : v5 < (a0.length : Int)
      · replace h := ip c10 h
        obtain ⟨c11, h⟩ := ifN h
        obtain ⟨t6, g12, h⟩ := bindN h
        let C12 := mkCon (laws_toRobot.ok (rdD z113 a0 v5) t6 g12) laws_toRobot.go
        obtain ⟨c13, h⟩ := ifN h
        exact hd func35 [.b true, .call C12, .aft 999999, orow 448 e69 z69 (v4.set v5.toNat t6), .fin] (oT c10 (o1 c11 (o1 c10 (oc C12 (o1 c11 (o1 c13 (o1 (GE.set (e := e69) (d := z69) v4 v5.toNat t6 (lt_toNat c11 c13) rfl) on))))))) (ih (v4.set v5.toNat t6) (w64 (v5 + 1)) h)
      · replace h := iq c10 h
        cases h
        exact rt func35 [.b false, .fin, .fin] (oF c10 on)
  exact hd func35 [rowe 7 e69 z69 (List.replicate (a0.length : Int).toNat z69), .fin] (o1 (rfl : (a0.length : Int) = (a0.length : Int)) (o1 c1 (o1 (mxl (b := 32) (by decide) c2) (o1 c2 (o1 (GE.rep (e := e69) (d := z69) (a0.length : Int).toNat (CE.refl _)) on))))) (H0 k (List.replicate (a0.length : Int).toNat z69) 0 h)

/-! ### laws_toIntS: function 39 -/
def laws_toIntS.h0T (a0 : List Int) (v3 : Int) (v2 : List Int) : List (Nat × AV) := [(0, .t (.c (.p false (R 1 (eI .i64) 0 a0)))), (3, .t (.c (.h 448))), (4, .t (.c (.p true (iI v3))))]
def laws_toIntS.h0H (a0 : List Int) (v3 : Int) (v2 : List Int) : List (Nat × Content) := [(448, .row 3 1 v2.length (fun j => (eI .i64) (v2.getD j 0)) true)]
def laws_toIntS.l0 : Nat → List Int → List Int → Int → Option (List Int)
  | 0, _, _, _ => none
  | kq + 1, a0, v2, v3 => if v3 < (a0.length : Int) then (if 0 ≤ v3 then (if v3 < (v2.length : Int) then (laws_toIntS.l0 kq a0 (v2.set v3.toNat (rdD 0 a0 v3)) (w64 (v3 + 1))) else none) else none) else (some v2)
def laws_toIntS.f (k : Nat) (a0 : List Int) : Option (List Int) := if 0 ≤ (a0.length : Int) then (if (a0.length : Int).toNat * 8 ≤ 140737488355328 then (laws_toIntS.l0 k a0 (List.replicate (a0.length : Int).toNat 0) 0) else none) else none
theorem laws_toIntS.go : Callable prog 39 := ⟨_, func39, by kernel_rfl, rfl⟩
theorem laws_toIntS.ok (k : Nat) (a0 : List Int) (r : (List Int)) (h : laws_toIntS.f k a0 = some r) : VCalls prog 39 [.c (R 1 (eI .i64) 0 a0)] [.c (.own 3 1 r.length (fun j => (eI .i64) (r.getD j 0)))] := by
  unfold laws_toIntS.f at h
  refine VCalls.of (fn := f39) (N := 22) func39 rfl rfl (fun w0 => ?_)
  obtain ⟨c1, h⟩ := ifN h
  obtain ⟨c2, h⟩ := ifN h
  have H0 : ∀ (kq : Nat) (v2 : List Int) (v3 : Int), laws_toIntS.l0 kq a0 v2 v3 = some r → AG prog 39 22 [.c (.own 3 1 r.length (fun j => (eI .i64) (r.getD j 0)))] w0 (headStk (codeOf f39) 0) (mkFS (laws_toIntS.h0T a0 v3 v2) (laws_toIntS.h0H a0 v3 v2)) := by
    intro kq
    induction kq with
    | zero => intro v2 v3 h; cases h
    | succ kq ih =>
      intro v2 v3 h
      rw [laws_toIntS.l0] at h
      by_cases c8 : v3 < (a0.length : Int)
      · replace h := ip c8 h
        obtain ⟨c9, h⟩ := ifN h
        obtain ⟨c10, h⟩ := ifN h
        exact hd func39 [.b true, .aft 999999, orow 448 (eI .i64) 0 (v2.set v3.toNat (rdD 0 a0 v3)), .fin] (oT c8 (o1 c9 (o1 c8 (o1 c9 (o1 c10 (o1 (GE.set (e := (eI .i64)) (d := 0) v2 v3.toNat (rdD 0 a0 v3) (lt_toNat c9 c10) rfl) on)))))) (ih (v2.set v3.toNat (rdD 0 a0 v3)) (w64 (v3 + 1)) h)
      · replace h := iq c8 h
        cases h
        exact rt func39 [.b false, .fin, .fin] (oF c8 on)
  exact hd func39 [rowe 7 (eI .i64) 0 (List.replicate (a0.length : Int).toNat 0), .fin] (o1 (rfl : (a0.length : Int) = (a0.length : Int)) (o1 c1 (o1 (mxl (b := 8) (by decide) c2) (o1 c2 (o1 (GE.rep (e := (eI .i64)) (d := 0) (a0.length : Int).toNat (CE.refl _)) on))))) (H0 k (List.replicate (a0.length : Int).toNat 0) 0 h)

/-! ### laws_toWindow: function 36 -/
def laws_toWindow.f (k : Nat) (a0 : S29) : Option S42 := (laws_toIntS.f k a0.f2).bind fun t1 => some (⟨a0.f0, a0.f1, t1⟩ : S42)
theorem laws_toWindow.go : Callable prog 36 := ⟨_, func36, by kernel_rfl, rfl⟩
theorem laws_toWindow.ok (k : Nat) (a0 : S29) (r : S42) (h : laws_toWindow.f k a0 = some r) : VCalls prog 36 [.agg (e29 a0)] [.agg (r42 r)] := by
  unfold laws_toWindow.f at h
  refine VCalls.of (fn := f36) (N := 15) func36 rfl rfl (fun w0 => ?_)
  obtain ⟨t1, g1, h⟩ := bindN h
  let C1 := mkCon (laws_toIntS.ok k a0.f2 t1 g1) laws_toIntS.go
  cases h
  exact rt func36 [.call C1, .fin] (oc C1 on)

/-! ### laws_toWay: function 157 -/
def laws_toWay.f (k : Nat) (a0 : S147) : Option S72 := (laws_toIntS.f k a0.f0).bind fun t1 => some (⟨t1⟩ : S72)
theorem laws_toWay.go : Callable prog 157 := ⟨_, func157, by kernel_rfl, rfl⟩
theorem laws_toWay.ok (k : Nat) (a0 : S147) (r : S72) (h : laws_toWay.f k a0 = some r) : VCalls prog 157 [.agg (e147 a0)] [.agg (r72 r)] := by
  unfold laws_toWay.f at h
  refine VCalls.of (fn := f157) (N := 9) func157 rfl rfl (fun w0 => ?_)
  obtain ⟨t1, g1, h⟩ := bindN h
  let C1 := mkCon (laws_toIntS.ok k a0.f0 t1 g1) laws_toIntS.go
  cases h
  exact rt func157 [.call C1, .fin] (oc C1 on)

/-! ### laws_toWayS: function 88 -/
def laws_toWayS.h0T (a0 : List S147) (v5 : Int) (v4 : List S72) : List (Nat × AV) := [(0, .t (.c (.p false (R 1 e147 z147 a0)))), (3, .t (.c (.hn 448))), (4, .t (.c (.p true (iI v5))))]
def laws_toWayS.h0H (a0 : List S147) (v5 : Int) (v4 : List S72) : List (Nat × Content) := [(448, NC 72 3 S72.f0 (Value.int .i64) z72 0 v4)]
def laws_toWayS.l0 : Nat → List S147 → List S72 → Int → Option (List S72)
  | 0, _, _, _ => none
  | kq + 1, a0, v4, v5 => if v5 < (a0.length : Int) then (if 0 ≤ v5 then ((laws_toWay.f kq (rdD z147 a0 v5)).bind fun t6 => if v5 < (v4.length : Int) then (laws_toWayS.l0 kq a0 (v4.set v5.toNat t6) (w64 (v5 + 1))) else none) else none) else (some v4)
def laws_toWayS.f (k : Nat) (a0 : List S147) : Option (List S72) := if 0 ≤ (a0.length : Int) then (if (a0.length : Int).toNat * 24 ≤ 140737488355328 then (laws_toWayS.l0 k a0 (List.replicate (a0.length : Int).toNat z72) 0) else none) else none
theorem laws_toWayS.go : Callable prog 88 := ⟨_, func88, by kernel_rfl, rfl⟩
theorem laws_toWayS.ok (k : Nat) (a0 : List S147) (r : (List S72)) (h : laws_toWayS.f k a0 = some r) : VCalls prog 88 [.c (R 1 e147 z147 a0)] [.c (NR 72 3 S72.f0 (Value.int .i64) z72 0 r)] := by
  unfold laws_toWayS.f at h
  refine VCalls.of (fn := f88) (N := 23) func88 rfl rfl (fun w0 => ?_)
  obtain ⟨c1, h⟩ := ifN h
  obtain ⟨c2, h⟩ := ifN h
  have H0 : ∀ (kq : Nat) (v4 : List S72) (v5 : Int), laws_toWayS.l0 kq a0 v4 v5 = some r → AG prog 88 23 [.c (NR 72 3 S72.f0 (Value.int .i64) z72 0 r)] w0 (headStk (codeOf f88) 0) (mkFS (laws_toWayS.h0T a0 v5 v4) (laws_toWayS.h0H a0 v5 v4)) := by
    intro kq
    induction kq with
    | zero => intro v4 v5 h; cases h
    | succ kq ih =>
      intro v4 v5 h
      rw [laws_toWayS.l0] at h
      by_cases c10 : v5 < (a0.length : Int)
      · replace h := ip c10 h
        obtain ⟨c11, h⟩ := ifN h
        obtain ⟨t6, g12, h⟩ := bindN h
        let C12 := mkCon (laws_toWay.ok kq (rdD z147 a0 v5) t6 g12) laws_toWay.go
        obtain ⟨c13, h⟩ := ifN h
        exact hd func88 [.b true, .call C12, .aft 999999, nrow 448 S72.f0 (Value.int .i64) z72 0 (v4.set v5.toNat t6), .fin] (oT c10 (o1 c11 (o1 c10 (oc C12 (o1 c11 (o1 c13 (o1 (SC.of (e := (eI .i64)) (d := 0) t6.f0 (by intro x; rfl)) (o1 (GEN.set S72.f0 (Value.int .i64) z72 0 v4 v5.toNat t6 (lt_toNat c11 c13) rfl (fun _ => rfl)) on)))))))) (ih (v4.set v5.toNat t6) (w64 (v5 + 1)) h)
      · replace h := iq c10 h
        cases h
        exact rt func88 [.b false, .fin, .fin] (oF c10 on)
  exact hd func88 [.aft 7, .toN 448 3, nrow 448 S72.f0 (Value.int .i64) z72 0 (List.replicate (a0.length : Int).toNat z72), .fin] (o1 (rfl : (a0.length : Int) = (a0.length : Int)) (o1 c1 (o1 (mxl (b := 24) (by decide) c2) (o1 c2 (o1 (nilG.z (a0.length : Int).toNat) (o1 (GEN.rep S72.f0 (Value.int .i64) z72 0 (a0.length : Int).toNat rfl) on)))))) (H0 k (List.replicate (a0.length : Int).toNat z72) 0 h)

/-! ### laws_toPlan: function 37 -/
def laws_toPlan.f (k : Nat) (a0 : S32) : Option S45 := (laws_toWayS.f k a0.f2).bind fun t1 => some (⟨a0.f0, a0.f1, t1⟩ : S45)
theorem laws_toPlan.go : Callable prog 37 := ⟨_, func37, by kernel_rfl, rfl⟩
theorem laws_toPlan.ok (k : Nat) (a0 : S32) (r : S45) (h : laws_toPlan.f k a0 = some r) : VCalls prog 37 [.agg (e32 a0)] [.agg (rn45 r)] := by
  unfold laws_toPlan.f at h
  refine VCalls.of (fn := f37) (N := 15) func37 rfl rfl (fun w0 => ?_)
  obtain ⟨t1, g1, h⟩ := bindN h
  let C1 := mkCon (laws_toWayS.ok k a0.f2 t1 g1) laws_toWayS.go
  cases h
  exact rt func37 [.call C1, .fin] (oc C1 on)

/-! ### laws_toJob: function 89 -/
def laws_toJob.f (a0 : S116) : Option S74 := some (⟨a0.f0, a0.f1, a0.f2⟩ : S74)
theorem laws_toJob.go : Callable prog 89 := ⟨_, func89, by kernel_rfl, rfl⟩
theorem laws_toJob.ok (a0 : S116) (r : S74) (h : laws_toJob.f a0 = some r) : VCalls prog 89 [.agg (e116 a0)] [.agg (r74 r)] := by
  unfold laws_toJob.f at h
  refine VCalls.of (fn := f89) (N := 14) func89 rfl rfl (fun w0 => ?_)
  cases h
  exact rt func89 [.fin] on

/-! ### laws_toJobS: function 38 -/
def laws_toJobS.h0T (a0 : List S116) (v5 : Int) (v4 : List S74) : List (Nat × AV) := [(0, .t (.c (.p false (R 3 e116 z116 a0)))), (3, .t (.c (.h 448))), (4, .t (.c (.p true (iI v5))))]
def laws_toJobS.h0H (a0 : List S116) (v5 : Int) (v4 : List S74) : List (Nat × Content) := [(448, .row 74 3 v4.length (fun j => e74 (v4.getD j z74)) true)]
def laws_toJobS.l0 : Nat → List S116 → List S74 → Int → Option (List S74)
  | 0, _, _, _ => none
  | kq + 1, a0, v4, v5 => if v5 < (a0.length : Int) then (if 0 ≤ v5 then ((laws_toJob.f (rdD z116 a0 v5)).bind fun t6 => if v5 < (v4.length : Int) then (laws_toJobS.l0 kq a0 (v4.set v5.toNat t6) (w64 (v5 + 1))) else none) else none) else (some v4)
def laws_toJobS.f (k : Nat) (a0 : List S116) : Option (List S74) := if 0 ≤ (a0.length : Int) then (if (a0.length : Int).toNat * 24 ≤ 140737488355328 then (laws_toJobS.l0 k a0 (List.replicate (a0.length : Int).toNat z74) 0) else none) else none
theorem laws_toJobS.go : Callable prog 38 := ⟨_, func38, by kernel_rfl, rfl⟩
theorem laws_toJobS.ok (k : Nat) (a0 : List S116) (r : (List S74)) (h : laws_toJobS.f k a0 = some r) : VCalls prog 38 [.c (R 3 e116 z116 a0)] [.c (.own 74 3 r.length (fun j => e74 (r.getD j z74)))] := by
  unfold laws_toJobS.f at h
  refine VCalls.of (fn := f38) (N := 23) func38 rfl rfl (fun w0 => ?_)
  obtain ⟨c1, h⟩ := ifN h
  obtain ⟨c2, h⟩ := ifN h
  have H0 : ∀ (kq : Nat) (v4 : List S74) (v5 : Int), laws_toJobS.l0 kq a0 v4 v5 = some r → AG prog 38 23 [.c (.own 74 3 r.length (fun j => e74 (r.getD j z74)))] w0 (headStk (codeOf f38) 0) (mkFS (laws_toJobS.h0T a0 v5 v4) (laws_toJobS.h0H a0 v5 v4)) := by
    intro kq
    induction kq with
    | zero => intro v4 v5 h; cases h
    | succ kq ih =>
      intro v4 v5 h
      rw [laws_toJobS.l0] at h
      by_cases c10 : v5 < (a0.length : Int)
      · replace h := ip c10 h
        obtain ⟨c11, h⟩ := ifN h
        obtain ⟨t6, g12, h⟩ := bindN h
        let C12 := mkCon (laws_toJob.ok (rdD z116 a0 v5) t6 g12) laws_toJob.go
        obtain ⟨c13, h⟩ := ifN h
        exact hd func38 [.b true, .call C12, .aft 999999, orow 448 e74 z74 (v4.set v5.toNat t6), .fin] (oT c10 (o1 c11 (o1 c10 (oc C12 (o1 c11 (o1 c13 (o1 (GE.set (e := e74) (d := z74) v4 v5.toNat t6 (lt_toNat c11 c13) rfl) on))))))) (ih (v4.set v5.toNat t6) (w64 (v5 + 1)) h)
      · replace h := iq c10 h
        cases h
        exact rt func38 [.b false, .fin, .fin] (oF c10 on)
  exact hd func38 [rowe 7 e74 z74 (List.replicate (a0.length : Int).toNat z74), .fin] (o1 (rfl : (a0.length : Int) = (a0.length : Int)) (o1 c1 (o1 (mxl (b := 24) (by decide) c2) (o1 c2 (o1 (GE.rep (e := e74) (d := z74) (a0.length : Int).toNat (CE.refl _)) on))))) (H0 k (List.replicate (a0.length : Int).toNat z74) 0 h)

/-! ### laws_toYard: function 9 -/
def laws_toYard.f (k : Nat) (a0 : S35) : Option S48 := (laws_toSetup.f a0.f0).bind fun t1 => (laws_toRobotS.f k a0.f1).bind fun t2 => (laws_toWindow.f k a0.f2).bind fun t3 => (laws_toPlan.f k a0.f5).bind fun t4 => (laws_toJobS.f k a0.f6).bind fun t5 => (laws_toIntS.f k a0.f7).bind fun t6 => some (⟨t1, t2, t3, a0.f3, a0.f4, t4, t5, t6⟩ : S48)
theorem laws_toYard.go : Callable prog 9 := ⟨_, func9, by kernel_rfl, rfl⟩
theorem laws_toYard.ok (k : Nat) (a0 : S35) (r : S48) (h : laws_toYard.f k a0 = some r) : VCalls prog 9 [.agg (e35 a0)] [.agg (rn48 r)] := by
  unfold laws_toYard.f at h
  refine VCalls.of (fn := f9) (N := 35) func9 rfl rfl (fun w0 => ?_)
  obtain ⟨t1, g1, h⟩ := bindN h
  let C1 := mkCon (laws_toSetup.ok a0.f0 t1 g1) laws_toSetup.go
  obtain ⟨t2, g2, h⟩ := bindN h
  let C2 := mkCon (laws_toRobotS.ok k a0.f1 t2 g2) laws_toRobotS.go
  obtain ⟨t3, g3, h⟩ := bindN h
  let C3 := mkCon (laws_toWindow.ok k a0.f2 t3 g3) laws_toWindow.go
  obtain ⟨t4, g4, h⟩ := bindN h
  let C4 := mkCon (laws_toPlan.ok k a0.f5 t4 g4) laws_toPlan.go
  obtain ⟨t5, g5, h⟩ := bindN h
  let C5 := mkCon (laws_toJobS.ok k a0.f6 t5 g5) laws_toJobS.go
  obtain ⟨t6, g6, h⟩ := bindN h
  let C6 := mkCon (laws_toIntS.ok k a0.f7 t6 g6) laws_toIntS.go
  cases h
  exact rt func9 [.call C1, .call C2, .call C3, .call C4, .call C5, .call C6, .fin] (oc C1 (oc C2 (oc C3 (oc C4 (oc C5 (oc C6 on))))))

/-! ### spec_l01In: function 79 -/
def spec_l01In.f (a0 : Int) (a1 : Int) (a2 : Int) : Option Bool := if a1 ≤ a0 then (some (decide (a0 ≤ a2))) else (some false)
theorem spec_l01In.go : Callable prog 79 := ⟨_, func79, by kernel_rfl, rfl⟩
theorem spec_l01In.ok (a0 : Int) (a1 : Int) (a2 : Int) (r : Bool) (h : spec_l01In.f a0 a1 a2 = some r) : VCalls prog 79 [.c (iI a0), .c (iI a1), .c (iI a2)] [.c (.p (.sc (.bool r)))] := by
  unfold spec_l01In.f at h
  refine VCalls.of (fn := f79) (N := 15) func79 rfl rfl (fun w0 => ?_)
  by_cases c1 : a1 ≤ a0
  · replace h := ip c1 h
    cases h
    exact rt func79 [.dec 10 true, .fin] (oT c1 on)
  · replace h := iq c1 h
    cases h
    exact rt func79 [.dec 10 false, .fin] (oF c1 on)

/-! ### spec_WindowNew: function 145 -/
def spec_WindowNew.f (a0 : Int) (a1 : Int) : Option (S42 × Bool) := (spec_l01In.f a0 1 8).bind fun t1 => if t1 = true then ((spec_l01In.f a1 1 100).bind fun t2 => if t2 = true then (if 0 ≤ (w64 (a0 * 6)) then (if (w64 (a0 * 6)).toNat * 8 ≤ 140737488355328 then (some ((⟨a0, a1, (List.replicate (w64 (a0 * 6)).toNat 0)⟩ : S42), true)) else none) else none) else (some ((⟨0, 0, ([] : List Int)⟩ : S42), false))) else (some ((⟨0, 0, ([] : List Int)⟩ : S42), false))
theorem spec_WindowNew.go : Callable prog 145 := ⟨_, func145, by kernel_rfl, rfl⟩
theorem spec_WindowNew.ok (a0 : Int) (a1 : Int) (r : S42 × Bool) (h : spec_WindowNew.f a0 a1 = some r) : VCalls prog 145 [.c (iI a0), .c (iI a1)] [.agg (r42 r.1), .c (.p (.sc (.bool r.2)))] := by
  unfold spec_WindowNew.f at h
  refine VCalls.of (fn := f145) (N := 21) func145 rfl rfl (fun w0 => ?_)
  obtain ⟨t1, g1, h⟩ := bindN h
  let C1 := mkCon (spec_l01In.ok a0 1 8 t1 g1) spec_l01In.go
  by_cases c2 : t1 = true
  · replace h := ip c2 h
    obtain ⟨t2, g3, h⟩ := bindN h
    let C3 := mkCon (spec_l01In.ok a1 1 100 t2 g3) spec_l01In.go
    by_cases c4 : t2 = true
    · replace h := ip c4 h
      obtain ⟨c5, h⟩ := ifN h
      obtain ⟨c6, h⟩ := ifN h
      cases h
      exact rt func145 [.call C1, .dec 9 false, .call C3, .b false, rowe 19 (eI .i64) 0 (List.replicate (w64 (a0 * 6)).toNat 0), .fin] (oc C1 (o1 (bnf c2) (oc C3 (o1 (bnf c4) (o1 (rfl : (w64 (a0 * 6)) = (w64 (a0 * 6))) (o1 c5 (o1 (mxl (b := 8) (by decide) c6) (o1 c6 (o1 (GE.rep (e := (eI .i64)) (d := 0) (w64 (a0 * 6)).toNat (CE.refl _)) on)))))))))
    · replace h := iq c4 h
      cases h
      exact rt func145 [.call C1, .dec 9 false, .call C3, .b true, .fin, .nilB 256 2 448258 3 1, orow 448258 (eI .i64) 0 ([] : List Int)] (oc C1 (o1 (bnf c2) (oc C3 (oN c4 (o1 (GE.nil (eI .i64) 0) on)))))
  · replace h := iq c2 h
    cases h
    exact rt func145 [.call C1, .dec 9 true, .b true, .fin, .nilB 256 2 448258 3 1, orow 448258 (eI .i64) 0 ([] : List Int)] (oc C1 (oN c2 (oR (o1 (GE.nil (eI .i64) 0) on))))

/-! ### spec_l02Kind: function 185 -/
def spec_l02Kind.f (a0 : Int) : Option Bool := if a0 = 46 then (some true) else (if a0 = 35 then (some true) else (if 97 ≤ a0 then (if a0 ≤ 102 then (some true) else (if 65 ≤ a0 then (some (decide (a0 ≤ 70))) else (some false))) else (if 65 ≤ a0 then (some (decide (a0 ≤ 70))) else (some false))))
theorem spec_l02Kind.go : Callable prog 185 := ⟨_, func185, by kernel_rfl, rfl⟩
theorem spec_l02Kind.ok (a0 : Int) (r : Bool) (h : spec_l02Kind.f a0 = some r) : VCalls prog 185 [.c (.sc (.int .u8 a0))] [.c (.p (.sc (.bool r)))] := by
  unfold spec_l02Kind.f at h
  refine VCalls.of (fn := f185) (N := 25) func185 rfl rfl (fun w0 => ?_)
  by_cases c1 : a0 = 46
  · replace h := ip c1 h
    cases h
    exact rt func185 [.dec 5 true, .fin] (oT c1 on)
  · replace h := iq c1 h
    by_cases c2 : a0 = 35
    · replace h := ip c2 h
      cases h
      exact rt func185 [.dec 5 false, .dec 9 true, .fin] (oF c1 (oT c2 on))
    · replace h := iq c2 h
      by_cases c3 : 97 ≤ a0
      · replace h := ip c3 h
        by_cases c4 : a0 ≤ 102
        · replace h := ip c4 h
          cases h
          exact rt func185 [.dec 5 false, .dec 9 false, .dec 12 true, .dec 17 true, .fin] (oF c1 (oF c2 (oT c3 (oT c4 on))))
        · replace h := iq c4 h
          by_cases c5 : 65 ≤ a0
          · replace h := ip c5 h
            cases h
            exact rt func185 [.dec 5 false, .dec 9 false, .dec 12 true, .dec 17 false, .dec 20 true, .fin] (oF c1 (oF c2 (oT c3 (oF c4 (oT c5 on)))))
          · replace h := iq c5 h
            cases h
            exact rt func185 [.dec 5 false, .dec 9 false, .dec 12 true, .dec 17 false, .dec 20 false, .fin] (oF c1 (oF c2 (oT c3 (oF c4 (oF c5 on)))))
      · replace h := iq c3 h
        by_cases c6 : 65 ≤ a0
        · replace h := ip c6 h
          cases h
          exact rt func185 [.dec 5 false, .dec 9 false, .dec 12 false, .dec 20 true, .fin] (oF c1 (oF c2 (oF c3 (oT c6 on))))
        · replace h := iq c6 h
          cases h
          exact rt func185 [.dec 5 false, .dec 9 false, .dec 12 false, .dec 20 false, .fin] (oF c1 (oF c2 (oF c3 (oF c6 on))))

/-! ### spec_GridOk: function 126 -/
def spec_GridOk.h0T (v4 : Int) (a0 : S38) : List (Nat × AV) := [(1, .ptr 64 0), (3, .t (.c (.p true (iI v4))))]
def spec_GridOk.h0H (v4 : Int) (a0 : S38) : List (Nat × Content) := [(64, .box 38 [.p false (iI a0.f0), .p false (iI a0.f1), .p false (.sc (.string a0.f2))])]
def spec_GridOk.l0 : Nat → S38 → Int → Option Bool
  | 0, _, _ => none
  | kq + 1, a0, v4 => if v4 < (a0.f2.size : Int) then (if 0 ≤ v4 then ((spec_l02Kind.f (bt a0.f2 v4)).bind fun t5 => if t5 = true then (spec_GridOk.l0 kq a0 (w64 (v4 + 1))) else (some false)) else none) else (some true)
def spec_GridOk.f (k : Nat) (a0 : S38) : Option Bool := (spec_l01In.f a0.f0 1 8).bind fun t1 => if t1 = true then ((spec_l01In.f a0.f1 1 8).bind fun t2 => if t2 = true then (if (a0.f2.size : Int) = (w64 (a0.f0 * a0.f1)) then (spec_GridOk.l0 k a0 0) else (some false)) else (some false)) else (some false)
theorem spec_GridOk.go : Callable prog 126 := ⟨_, func126, by kernel_rfl, rfl⟩
theorem spec_GridOk.ok (k : Nat) (a0 : S38) (r : Bool) (h : spec_GridOk.f k a0 = some r) : VCalls prog 126 [.agg (e38 a0)] [.c (.p (.sc (.bool r)))] := by
  unfold spec_GridOk.f at h
  refine VCalls.of (fn := f126) (N := 38) func126 rfl rfl (fun w0 => ?_)
  obtain ⟨t1, g1, h⟩ := bindN h
  let C1 := mkCon (spec_l01In.ok a0.f0 1 8 t1 g1) spec_l01In.go
  by_cases c2 : t1 = true
  · replace h := ip c2 h
    obtain ⟨t2, g3, h⟩ := bindN h
    let C3 := mkCon (spec_l01In.ok a0.f1 1 8 t2 g3) spec_l01In.go
    by_cases c4 : t2 = true
    · replace h := ip c4 h
      by_cases c5 : (a0.f2.size : Int) = (w64 (a0.f0 * a0.f1))
      · replace h := ip c5 h
        have H0 : ∀ (kq : Nat) (v4 : Int), spec_GridOk.l0 kq a0 v4 = some r → AG prog 126 38 [.c (.p (.sc (.bool r)))] w0 (headStk (codeOf f126) 0) (mkFS (spec_GridOk.h0T v4 a0) (spec_GridOk.h0H v4 a0)) := by
          intro kq
          induction kq with
          | zero => intro v4 h; cases h
          | succ kq ih =>
            intro v4 h
            rw [spec_GridOk.l0] at h
            by_cases c9 : v4 < (a0.f2.size : Int)
            · replace h := ip c9 h
              obtain ⟨c10, h⟩ := ifN h
              obtain ⟨t5, g11, h⟩ := bindN h
              let C11 := mkCon (spec_l02Kind.ok (bt a0.f2 v4) t5 g11) spec_l02Kind.go
              by_cases c12 : t5 = true
              · replace h := ip c12 h
                exact hd func126 [.b true, .call C11, .b false, .fin] (oT c9 (o1 c10 (o1 c9 (oc C11 (o1 (bnf c12) on))))) (ih (w64 (v4 + 1)) h)
              · replace h := iq c12 h
                cases h
                exact rt func126 [.b true, .call C11, .b true, .fin] (oT c9 (o1 c10 (o1 c9 (oc C11 (oN c12 on)))))
            · replace h := iq c9 h
              cases h
              exact rt func126 [.b false, .fin, .fin] (oF c9 on)
        exact hd func126 [.call C1, .dec 8 false, .call C3, .dec 14 false, .b false, .fin] (oc C1 (o1 (bnf c2) (oc C3 (o1 (bnf c4) (o1 (bnf (decide_eq_true c5)) on))))) (H0 k 0 h)
      · replace h := iq c5 h
        cases h
        exact rt func126 [.call C1, .dec 8 false, .call C3, .dec 14 false, .b true, .fin] (oc C1 (o1 (bnf c2) (oc C3 (o1 (bnf c4) (o1 (bnt (decide_eq_false c5)) on)))))
    · replace h := iq c4 h
      cases h
      exact rt func126 [.call C1, .dec 8 false, .call C3, .dec 14 true, .b true, .fin] (oc C1 (o1 (bnf c2) (oc C3 (oN c4 (oR on)))))
  · replace h := iq c2 h
    cases h
    exact rt func126 [.call C1, .dec 8 true, .b true, .fin] (oc C1 (oN c2 (oR on)))

/-! ### spec_SetupOk: function 76 -/
def spec_SetupOk.f (k : Nat) (a0 : S40) : Option Bool := (spec_WindowNew.f a0.f2 a0.f3).bind fun t1 => (spec_GridOk.f k a0.f0).bind fun t2 => if t2 = true then ((spec_l01In.f a0.f1 1 20).bind fun t3 => if t3 = true then (if t1.2 = true then ((spec_l01In.f a0.f4 0 20).bind fun t4 => some t4) else (some false)) else (some false)) else (some false)
theorem spec_SetupOk.go : Callable prog 76 := ⟨_, func76, by kernel_rfl, rfl⟩
theorem spec_SetupOk.ok (k : Nat) (a0 : S40) (r : Bool) (h : spec_SetupOk.f k a0 = some r) : VCalls prog 76 [.agg (e40 a0)] [.c (.p (.sc (.bool r)))] := by
  unfold spec_SetupOk.f at h
  refine VCalls.of (fn := f76) (N := 29) func76 rfl rfl (fun w0 => ?_)
  obtain ⟨t1, g1, h⟩ := bindN h
  let C1 := mkCon (spec_WindowNew.ok a0.f2 a0.f3 t1 g1) spec_WindowNew.go
  obtain ⟨t2, g2, h⟩ := bindN h
  let C2 := mkCon (spec_GridOk.ok k a0.f0 t2 g2) spec_GridOk.go
  by_cases c3 : t2 = true
  · replace h := ip c3 h
    obtain ⟨t3, g4, h⟩ := bindN h
    let C4 := mkCon (spec_l01In.ok a0.f1 1 20 t3 g4) spec_l01In.go
    by_cases c5 : t3 = true
    · replace h := ip c5 h
      by_cases c6 : t1.2 = true
      · replace h := ip c6 h
        obtain ⟨t4, g7, h⟩ := bindN h
        let C7 := mkCon (spec_l01In.ok a0.f4 0 20 t4 g7) spec_l01In.go
        cases h
        exact rt func76 [.call C1, .call C2, .dec 16 true, .call C4, .dec 21 true, .dec 24 true, .call C7, .fin] (oc C1 (oc C2 (o1 c3 (oc C4 (o1 c5 (o1 c6 (oc C7 on)))))))
      · replace h := iq c6 h
        cases h
        exact rt func76 [.call C1, .call C2, .dec 16 true, .call C4, .dec 21 true, .dec 24 false, .fin] (oc C1 (oc C2 (o1 c3 (oc C4 (o1 c5 (o1 (eqf c6) on))))))
    · replace h := iq c5 h
      cases h
      exact rt func76 [.call C1, .call C2, .dec 16 true, .call C4, .dec 21 false, .fin] (oc C1 (oc C2 (o1 c3 (oc C4 (o1 (eqf c5) on)))))
  · replace h := iq c3 h
    cases h
    exact rt func76 [.call C1, .call C2, .dec 16 false, .fin] (oc C1 (oc C2 (o1 (eqf c3) on)))

/-! ### spec_FreeAt: function 146 -/
def spec_FreeAt.f (k : Nat) (a0 : S38) (a1 : Int) : Option Bool := (spec_GridOk.f k a0).bind fun t1 => if t1 = true then (if 0 ≤ a1 then (if a1 < (a0.f2.size : Int) then (some (!decide ((bt a0.f2 a1) = 35))) else (some false)) else (some false)) else (some false)
theorem spec_FreeAt.go : Callable prog 146 := ⟨_, func146, by kernel_rfl, rfl⟩
theorem spec_FreeAt.ok (k : Nat) (a0 : S38) (a1 : Int) (r : Bool) (h : spec_FreeAt.f k a0 a1 = some r) : VCalls prog 146 [.agg (e38 a0), .c (iI a1)] [.c (.p (.sc (.bool r)))] := by
  unfold spec_FreeAt.f at h
  refine VCalls.of (fn := f146) (N := 25) func146 rfl rfl (fun w0 => ?_)
  obtain ⟨t1, g1, h⟩ := bindN h
  let C1 := mkCon (spec_GridOk.ok k a0 t1 g1) spec_GridOk.go
  by_cases c2 : t1 = true
  · replace h := ip c2 h
    by_cases c3 : 0 ≤ a1
    · replace h := ip c3 h
      by_cases c4 : a1 < (a0.f2.size : Int)
      · replace h := ip c4 h
        cases h
        exact rt func146 [.call C1, .dec 7 true, .dec 11 true, .dec 18 true, .fin] (oc C1 (o1 c2 (oT c3 (oT c4 (o1 c3 (o1 c4 on))))))
      · replace h := iq c4 h
        cases h
        exact rt func146 [.call C1, .dec 7 true, .dec 11 true, .dec 18 false, .fin] (oc C1 (o1 c2 (oT c3 (oF c4 on))))
    · replace h := iq c3 h
      cases h
      exact rt func146 [.call C1, .dec 7 true, .dec 11 false, .fin] (oc C1 (o1 c2 (oF c3 on)))
  · replace h := iq c2 h
    cases h
    exact rt func146 [.call C1, .dec 7 false, .fin] (oc C1 (o1 (eqf c2) on))

/-! ### spec_HolderOf: function 52 -/
def spec_HolderOf.h0T (a0 : List S69) (a1 : Int) (v1 : Int) : List (Nat × AV) := [(0, .t (.c (.p false (R 4 e69 z69 a0)))), (1, .t (.c (.p false (iI a1)))), (5, .t (.c (.p true (iI v1))))]
def spec_HolderOf.h0H (a0 : List S69) (a1 : Int) (v1 : Int) : List (Nat × Content) := []
def spec_HolderOf.l0 : Nat → List S69 → Int → Int → Option Int
  | 0, _, _, _ => none
  | kq + 1, a0, a1, v1 => if v1 < (a0.length : Int) then (if 0 ≤ a1 then (if 0 ≤ v1 then (if (rdD z69 a0 v1).f1 = a1 then (some ((rdD z69 a0 v1).f0)) else (if (rdD z69 a0 v1).f2 = a1 then (some ((rdD z69 a0 v1).f0)) else (spec_HolderOf.l0 kq a0 a1 (w64 (v1 + 1))))) else none) else (some (-1))) else (some (-1))
def spec_HolderOf.f (k : Nat) (a0 : List S69) (a1 : Int) : Option Int := spec_HolderOf.l0 k a0 a1 0
theorem spec_HolderOf.go : Callable prog 52 := ⟨_, func52, by kernel_rfl, rfl⟩
theorem spec_HolderOf.ok (k : Nat) (a0 : List S69) (a1 : Int) (r : Int) (h : spec_HolderOf.f k a0 a1 = some r) : VCalls prog 52 [.c (R 4 e69 z69 a0), .c (iI a1)] [.c (.p (iI r))] := by
  unfold spec_HolderOf.f at h
  refine VCalls.of (fn := f52) (N := 37) func52 rfl rfl (fun w0 => ?_)
  have H0 : ∀ (kq : Nat) (v1 : Int), spec_HolderOf.l0 kq a0 a1 v1 = some r → AG prog 52 37 [.c (.p (iI r))] w0 (headStk (codeOf f52) 0) (mkFS (spec_HolderOf.h0T a0 a1 v1) (spec_HolderOf.h0H a0 a1 v1)) := by
    intro kq
    induction kq with
    | zero => intro v1 h; cases h
    | succ kq ih =>
      intro v1 h
      rw [spec_HolderOf.l0] at h
      by_cases c5 : v1 < (a0.length : Int)
      · replace h := ip c5 h
        by_cases c6 : 0 ≤ a1
        · replace h := ip c6 h
          obtain ⟨c7, h⟩ := ifN h
          by_cases c8 : (rdD z69 a0 v1).f1 = a1
          · replace h := ip c8 h
            cases h
            exact rt func52 [.dec 10 true, .b true, .dec 23 true, .b true, .fin] (oT c5 (oT c6 (o1 c7 (o1 c5 (oT c8 (oR (o1 c7 (o1 c5 on))))))))
          · replace h := iq c8 h
            by_cases c9 : (rdD z69 a0 v1).f2 = a1
            · replace h := ip c9 h
              cases h
              exact rt func52 [.dec 10 true, .b true, .dec 23 false, .b true, .fin] (oT c5 (oT c6 (o1 c7 (o1 c5 (oF c8 (o1 c7 (o1 c5 (oT c9 (o1 c7 (o1 c5 on))))))))))
            · replace h := iq c9 h
              exact hd func52 [.dec 10 true, .b true, .dec 23 false, .b false, .fin] (oT c5 (oT c6 (o1 c7 (o1 c5 (oF c8 (o1 c7 (o1 c5 (oF c9 on)))))))) (ih (w64 (v1 + 1)) h)
        · replace h := iq c6 h
          cases h
          exact rt func52 [.dec 10 true, .b false, .fin, .fin] (oT c5 (oF c6 on))
      · replace h := iq c5 h
        cases h
        exact rt func52 [.dec 10 false, .b false, .fin, .fin] (oF c5 (o1 (rfl : false = false) on))
  exact hd func52 [.fin] on (H0 k 0 h)

/-! ### spec_SpotOf: function 233 -/
def spec_SpotOf.f (k : Nat) (a0 : S38) (a1 : Int) : Option (Int × Int) := (spec_GridOk.f k a0).bind fun t1 => if t1 = true then (if a1 < 0 then (some ((-1), (-1))) else (if (a0.f2.size : Int) ≤ a1 then (some ((-1), (-1))) else (if a0.f0 ≠ 0 then (some ((a1.tmod a0.f0), (w64 (a1.tdiv a0.f0)))) else none))) else (some ((-1), (-1)))
theorem spec_SpotOf.go : Callable prog 233 := ⟨_, func233, by kernel_rfl, rfl⟩
theorem spec_SpotOf.ok (k : Nat) (a0 : S38) (a1 : Int) (r : Int × Int) (h : spec_SpotOf.f k a0 a1 = some r) : VCalls prog 233 [.agg (e38 a0), .c (iI a1)] [.c (.p (iI r.1)), .c (.p (iI r.2))] := by
  unfold spec_SpotOf.f at h
  refine VCalls.of (fn := f233) (N := 28) func233 rfl rfl (fun w0 => ?_)
  obtain ⟨t1, g1, h⟩ := bindN h
  let C1 := mkCon (spec_GridOk.ok k a0 t1 g1) spec_GridOk.go
  by_cases c2 : t1 = true
  · replace h := ip c2 h
    by_cases c3 : a1 < 0
    · replace h := ip c3 h
      cases h
      exact rt func233 [.call C1, .dec 9 false, .dec 13 true, .b true, .fin] (oc C1 (o1 (bnf c2) (oT c3 (oR on))))
    · replace h := iq c3 h
      by_cases c4 : (a0.f2.size : Int) ≤ a1
      · replace h := ip c4 h
        cases h
        exact rt func233 [.call C1, .dec 9 false, .dec 13 false, .b true, .fin] (oc C1 (o1 (bnf c2) (oF c3 (oT c4 on))))
      · replace h := iq c4 h
        obtain ⟨c5, h⟩ := ifN h
        cases h
        exact rt func233 [.call C1, .dec 9 false, .dec 13 false, .b false, .fin] (oc C1 (o1 (bnf c2) (oF c3 (oF c4 (o1 c5 (o1 c5 on))))))
  · replace h := iq c2 h
    cases h
    exact rt func233 [.call C1, .dec 9 true, .b true, .fin] (oc C1 (oN c2 (oR on)))

/-! ### spec_CellAt: function 234 -/
def spec_CellAt.f (k : Nat) (a0 : S38) (a1 : Int) (a2 : Int) : Option Int := (spec_GridOk.f k a0).bind fun t1 => if t1 = true then ((spec_l01In.f a1 0 (w64 (a0.f0 - 1))).bind fun t2 => if t2 = true then ((spec_l01In.f a2 0 (w64 (a0.f1 - 1))).bind fun t3 => if t3 = true then (some (w64 ((w64 (a2 * a0.f0)) + a1))) else (some (-1))) else (some (-1))) else (some (-1))
theorem spec_CellAt.go : Callable prog 234 := ⟨_, func234, by kernel_rfl, rfl⟩
theorem spec_CellAt.ok (k : Nat) (a0 : S38) (a1 : Int) (a2 : Int) (r : Int) (h : spec_CellAt.f k a0 a1 a2 = some r) : VCalls prog 234 [.agg (e38 a0), .c (iI a1), .c (iI a2)] [.c (.p (iI r))] := by
  unfold spec_CellAt.f at h
  refine VCalls.of (fn := f234) (N := 32) func234 rfl rfl (fun w0 => ?_)
  obtain ⟨t1, g1, h⟩ := bindN h
  let C1 := mkCon (spec_GridOk.ok k a0 t1 g1) spec_GridOk.go
  by_cases c2 : t1 = true
  · replace h := ip c2 h
    obtain ⟨t2, g3, h⟩ := bindN h
    let C3 := mkCon (spec_l01In.ok a1 0 (w64 (a0.f0 - 1)) t2 g3) spec_l01In.go
    by_cases c4 : t2 = true
    · replace h := ip c4 h
      obtain ⟨t3, g5, h⟩ := bindN h
      let C5 := mkCon (spec_l01In.ok a2 0 (w64 (a0.f1 - 1)) t3 g5) spec_l01In.go
      by_cases c6 : t3 = true
      · replace h := ip c6 h
        cases h
        exact rt func234 [.call C1, .dec 10 false, .call C3, .dec 18 false, .call C5, .b false, .fin] (oc C1 (o1 (bnf c2) (oc C3 (o1 (bnf c4) (oc C5 (o1 (bnf c6) on))))))
      · replace h := iq c6 h
        cases h
        exact rt func234 [.call C1, .dec 10 false, .call C3, .dec 18 false, .call C5, .b true, .fin] (oc C1 (o1 (bnf c2) (oc C3 (o1 (bnf c4) (oc C5 (oN c6 on))))))
    · replace h := iq c4 h
      cases h
      exact rt func234 [.call C1, .dec 10 false, .call C3, .dec 18 true, .b true, .fin] (oc C1 (o1 (bnf c2) (oc C3 (oN c4 (oR on)))))
  · replace h := iq c2 h
    cases h
    exact rt func234 [.call C1, .dec 10 true, .b true, .fin] (oc C1 (oN c2 (oR on)))

/-! ### spec_Around: function 203 -/
def spec_Around.h0T (v11 : Int) (a0 : S38) (v10 : List Int) (t3 : Int) (t4 : Int) (t5 : Int) (t6 : Int) : List (Nat × AV) := [(2, .ptr 128 0), (5, .t (.c (.h 640))), (8, .t (.c (.h 2688))), (9, .t (.c (.p true (iI v11))))]
def spec_Around.h0H (v11 : Int) (a0 : S38) (v10 : List Int) (t3 : Int) (t4 : Int) (t5 : Int) (t6 : Int) : List (Nat × Content) := [(128, .box 38 [.p false (iI a0.f0), .p false (iI a0.f1), .p false (.sc (.string a0.f2))]), (640, .row 3 1 v10.length (fun j => (eI .i64) (v10.getD j 0)) true), (2688, .row 3 1 ([t3, t4, t5, t6]).length (fun j => (eI .i64) (([t3, t4, t5, t6]).getD j 0)) true)]
def spec_Around.l0 : Nat → Int → Int → Int → Int → S38 → List Int → Int → Option (List Int)
  | 0, _, _, _, _, _, _, _ => none
  | kq + 1, t3, t4, t5, t6, a0, v10, v11 => if v11 < 4 then (if 0 ≤ v11 then (if v11 < (([t3, t4, t5, t6]).length : Int) then ((spec_FreeAt.f kq a0 (rdD 0 ([t3, t4, t5, t6]) v11)).bind fun t12 => if t12 = true then (if (v10.length + 1) * 8 ≤ 140737488355328 then (spec_Around.l0 kq t3 t4 t5 t6 a0 (v10 ++ [(rdD 0 ([t3, t4, t5, t6]) v11)]) (w64 (v11 + 1))) else none) else (spec_Around.l0 kq t3 t4 t5 t6 a0 v10 (w64 (v11 + 1)))) else none) else none) else (some v10)
def spec_Around.f (k : Nat) (a0 : S38) (a1 : Int) : Option (List Int) := (spec_FreeAt.f k a0 a1).bind fun t1 => if t1 = true then ((spec_SpotOf.f k a0 a1).bind fun t2 => (spec_CellAt.f k a0 t2.1 (w64 (t2.2 - 1))).bind fun t3 => (spec_CellAt.f k a0 (w64 (t2.1 - 1)) t2.2).bind fun t4 => (spec_CellAt.f k a0 (w64 (t2.1 + 1)) t2.2).bind fun t5 => (spec_CellAt.f k a0 t2.1 (w64 (t2.2 + 1))).bind fun t6 => spec_Around.l0 k t3 t4 t5 t6 a0 ([] : List Int) 0) else (some ([] : List Int))
theorem spec_Around.go : Callable prog 203 := ⟨_, func203, by kernel_rfl, rfl⟩
theorem spec_Around.ok (k : Nat) (a0 : S38) (a1 : Int) (r : (List Int)) (h : spec_Around.f k a0 a1 = some r) : VCalls prog 203 [.agg (e38 a0), .c (iI a1)] [.c (.own 3 1 r.length (fun j => (eI .i64) (r.getD j 0)))] := by
  unfold spec_Around.f at h
  refine VCalls.of (fn := f203) (N := 61) func203 rfl rfl (fun w0 => ?_)
  obtain ⟨t1, g1, h⟩ := bindN h
  let C1 := mkCon (spec_FreeAt.ok k a0 a1 t1 g1) spec_FreeAt.go
  by_cases c2 : t1 = true
  · replace h := ip c2 h
    obtain ⟨t2, g3, h⟩ := bindN h
    let C3 := mkCon (spec_SpotOf.ok k a0 a1 t2 g3) spec_SpotOf.go
    obtain ⟨t3, g4, h⟩ := bindN h
    let C4 := mkCon (spec_CellAt.ok k a0 t2.1 (w64 (t2.2 - 1)) t3 g4) spec_CellAt.go
    obtain ⟨t4, g5, h⟩ := bindN h
    let C5 := mkCon (spec_CellAt.ok k a0 (w64 (t2.1 - 1)) t2.2 t4 g5) spec_CellAt.go
    obtain ⟨t5, g6, h⟩ := bindN h
    let C6 := mkCon (spec_CellAt.ok k a0 (w64 (t2.1 + 1)) t2.2 t5 g6) spec_CellAt.go
    obtain ⟨t6, g7, h⟩ := bindN h
    let C7 := mkCon (spec_CellAt.ok k a0 t2.1 (w64 (t2.2 + 1)) t6 g7) spec_CellAt.go
    have H0 : ∀ (kq : Nat) (v10 : List Int) (v11 : Int), spec_Around.l0 kq t3 t4 t5 t6 a0 v10 v11 = some r → AG prog 203 61 [.c (.own 3 1 r.length (fun j => (eI .i64) (r.getD j 0)))] w0 (headStk (codeOf f203) 0) (mkFS (spec_Around.h0T v11 a0 v10 t3 t4 t5 t6) (spec_Around.h0H v11 a0 v10 t3 t4 t5 t6)) := by
      intro kq
      induction kq with
      | zero => intro v10 v11 h; cases h
      | succ kq ih =>
        intro v10 v11 h
        rw [spec_Around.l0] at h
        by_cases c19 : v11 < 4
        · replace h := ip c19 h
          obtain ⟨c20, h⟩ := ifN h
          obtain ⟨c21, h⟩ := ifN h
          obtain ⟨t12, g22, h⟩ := bindN h
          let C22 := mkCon (spec_FreeAt.ok kq a0 (rdD 0 ([t3, t4, t5, t6]) v11) t12 g22) spec_FreeAt.go
          by_cases c23 : t12 = true
          · replace h := ip c23 h
            obtain ⟨c24, h⟩ := ifN h
            exact hd func203 [.b true, .call C22, .b true, rowe 58 (eI .i64) 0 ([(rdD 0 ([t3, t4, t5, t6]) v11)]), .aft 59, orow 640 (eI .i64) 0 (v10 ++ [(rdD 0 ([t3, t4, t5, t6]) v11)]), .fin] (oT c19 (o1 c20 (o1 c21 (oc C22 (o1 c23 (o1 c20 (o1 c21 (o1 (GE.lit 1 (eI .i64) 0 [(rdD 0 ([t3, t4, t5, t6]) v11)] (by intro x; rfl)) (o1 c24 (o1 (GE.app (e := (eI .i64)) (d := 0) v10 ([(rdD 0 ([t3, t4, t5, t6]) v11)]) rfl (fun _ _ => CE.refl _) rfl) on)))))))))) (ih (v10 ++ [(rdD 0 ([t3, t4, t5, t6]) v11)]) (w64 (v11 + 1)) h)
          · replace h := iq c23 h
            exact hd func203 [.b true, .call C22, .b false, .fin] (oT c19 (o1 c20 (o1 c21 (oc C22 (o1 (eqf c23) on))))) (ih v10 (w64 (v11 + 1)) h)
        · replace h := iq c19 h
          cases h
          exact rt func203 [.b false, .fin, .fin] (oF c19 on)
    exact hd func203 [rowe 10 (eI .i64) 0 ([] : List Int), .call C1, .b false, .call C3, .call C4, .call C5, .call C6, .call C7, rowe 42 (eI .i64) 0 ([t3, t4, t5, t6]), .fin] (o1 (GE.lit 1 (eI .i64) 0 ([] : List Int) (by intro x; rfl)) (oc C1 (o1 (bnf c2) (oc C3 (oc C4 (oc C5 (oc C6 (oc C7 (o1 (GE.lit 1 (eI .i64) 0 [t3, t4, t5, t6] (by intro x; rfl)) on))))))))) (H0 k ([] : List Int) 0 h)
  · replace h := iq c2 h
    cases h
    exact rt func203 [rowe 10 (eI .i64) 0 ([] : List Int), .call C1, .b true, .fin] (o1 (GE.lit 1 (eI .i64) 0 ([] : List Int) (by intro x; rfl)) (oc C1 (oN c2 on)))

/-! ### spec_l03Has: function 83 -/
def spec_l03Has.h0T (a0 : List Int) (a1 : Int) (v1 : Int) : List (Nat × AV) := [(0, .t (.c (.p false (R 1 (eI .i64) 0 a0)))), (1, .t (.c (.p false (iI a1)))), (5, .t (.c (.p true (iI v1))))]
def spec_l03Has.h0H (a0 : List Int) (a1 : Int) (v1 : Int) : List (Nat × Content) := []
def spec_l03Has.l0 : Nat → List Int → Int → Int → Option Bool
  | 0, _, _, _ => none
  | kq + 1, a0, a1, v1 => if v1 < (a0.length : Int) then (if 0 ≤ v1 then (if (rdD 0 a0 v1) = a1 then (some true) else (spec_l03Has.l0 kq a0 a1 (w64 (v1 + 1)))) else none) else (some false)
def spec_l03Has.f (k : Nat) (a0 : List Int) (a1 : Int) : Option Bool := spec_l03Has.l0 k a0 a1 0
theorem spec_l03Has.go : Callable prog 83 := ⟨_, func83, by kernel_rfl, rfl⟩
theorem spec_l03Has.ok (k : Nat) (a0 : List Int) (a1 : Int) (r : Bool) (h : spec_l03Has.f k a0 a1 = some r) : VCalls prog 83 [.c (R 1 (eI .i64) 0 a0), .c (iI a1)] [.c (.p (.sc (.bool r)))] := by
  unfold spec_l03Has.f at h
  refine VCalls.of (fn := f83) (N := 18) func83 rfl rfl (fun w0 => ?_)
  have H0 : ∀ (kq : Nat) (v1 : Int), spec_l03Has.l0 kq a0 a1 v1 = some r → AG prog 83 18 [.c (.p (.sc (.bool r)))] w0 (headStk (codeOf f83) 0) (mkFS (spec_l03Has.h0T a0 a1 v1) (spec_l03Has.h0H a0 a1 v1)) := by
    intro kq
    induction kq with
    | zero => intro v1 h; cases h
    | succ kq ih =>
      intro v1 h
      rw [spec_l03Has.l0] at h
      by_cases c3 : v1 < (a0.length : Int)
      · replace h := ip c3 h
        obtain ⟨c4, h⟩ := ifN h
        by_cases c5 : (rdD 0 a0 v1) = a1
        · replace h := ip c5 h
          cases h
          exact rt func83 [.b true, .b true, .fin] (oT c3 (o1 c4 (o1 c3 (oT c5 on))))
        · replace h := iq c5 h
          exact hd func83 [.b true, .b false, .fin] (oT c3 (o1 c4 (o1 c3 (oF c5 on)))) (ih (w64 (v1 + 1)) h)
      · replace h := iq c3 h
        cases h
        exact rt func83 [.b false, .fin, .fin] (oF c3 on)
  exact hd func83 [.fin] on (H0 k 0 h)

/-! ### spec_Beside: function 147 -/
def spec_Beside.f (k : Nat) (a0 : S38) (a1 : Int) (a2 : Int) : Option Bool := (spec_Around.f k a0 a1).bind fun t1 => (spec_l03Has.f k t1 a2).bind fun t2 => some t2
theorem spec_Beside.go : Callable prog 147 := ⟨_, func147, by kernel_rfl, rfl⟩
theorem spec_Beside.ok (k : Nat) (a0 : S38) (a1 : Int) (a2 : Int) (r : Bool) (h : spec_Beside.f k a0 a1 a2 = some r) : VCalls prog 147 [.agg (e38 a0), .c (iI a1), .c (iI a2)] [.c (.p (.sc (.bool r)))] := by
  unfold spec_Beside.f at h
  refine VCalls.of (fn := f147) (N := 12) func147 rfl rfl (fun w0 => ?_)
  obtain ⟨t1, g1, h⟩ := bindN h
  let C1 := mkCon (spec_Around.ok k a0 a1 t1 g1) spec_Around.go
  obtain ⟨t2, g2, h⟩ := bindN h
  let C2 := mkCon (spec_l03Has.ok k t1 a2 t2 g2) spec_l03Has.go
  cases h
  exact rt func147 [.call C1, .call C2, .fin] (oc C1 (oc C2 on))

/-! ### spec_RobotsOk: function 77 -/
def spec_RobotsOk.h0T (a1 : List S69) (v6 : Int) (a0 : S38) : List (Nat × AV) := [(1, .t (.c (.p false (R 4 e69 z69 a1)))), (2, .ptr 128 0), (5, .t (.c (.p true (iI v6))))]
def spec_RobotsOk.h0H (a1 : List S69) (v6 : Int) (a0 : S38) : List (Nat × Content) := [(128, .box 38 [.p false (iI a0.f0), .p false (iI a0.f1), .p false (.sc (.string a0.f2))])]
def spec_RobotsOk.l0 : Nat → List S69 → S38 → Int → Option Bool
  | 0, _, _, _ => none
  | kq + 1, a1, a0, v6 => if v6 < (a1.length : Int) then (if 0 ≤ v6 then ((spec_l01In.f ((rdD z69 a1 v6).f0) 0 99).bind fun t7 => if t7 = true then (if 0 < v6 then (if 0 ≤ (w64 (v6 - 1)) then (if (w64 (v6 - 1)) < (a1.length : Int) then (if (rdD z69 a1 v6).f0 ≤ (rdD z69 a1 (w64 (v6 - 1))).f0 then (some false) else ((spec_FreeAt.f kq a0 ((rdD z69 a1 v6).f1)).bind fun t8 => if t8 = true then (if (rdD z69 a1 v6).f2 = (-1) then (if v6 ≤ (a1.length : Int) then ((spec_HolderOf.f kq ((a1.drop (0 : Int).toNat).take (v6.toNat - (0 : Int).toNat)) ((rdD z69 a1 v6).f1)).bind fun t9 => if 0 ≤ t9 then (some false) else ((spec_HolderOf.f kq ((a1.drop (0 : Int).toNat).take (v6.toNat - (0 : Int).toNat)) ((rdD z69 a1 v6).f2)).bind fun t10 => if 0 ≤ t10 then (some false) else (spec_RobotsOk.l0 kq a1 a0 (w64 (v6 + 1))))) else none) else ((spec_Beside.f kq a0 ((rdD z69 a1 v6).f1) ((rdD z69 a1 v6).f2)).bind fun t11 => if t11 = true then (if v6 ≤ (a1.length : Int) then ((spec_HolderOf.f kq ((a1.drop (0 : Int).toNat).take (v6.toNat - (0 : Int).toNat)) ((rdD z69 a1 v6).f1)).bind fun t12 => if 0 ≤ t12 then (some false) else ((spec_HolderOf.f kq ((a1.drop (0 : Int).toNat).take (v6.toNat - (0 : Int).toNat)) ((rdD z69 a1 v6).f2)).bind fun t13 => if 0 ≤ t13 then (some false) else (spec_RobotsOk.l0 kq a1 a0 (w64 (v6 + 1))))) else none) else (some false))) else (some false))) else none) else none) else ((spec_FreeAt.f kq a0 ((rdD z69 a1 v6).f1)).bind fun t14 => if t14 = true then (if (rdD z69 a1 v6).f2 = (-1) then (if v6 ≤ (a1.length : Int) then ((spec_HolderOf.f kq ((a1.drop (0 : Int).toNat).take (v6.toNat - (0 : Int).toNat)) ((rdD z69 a1 v6).f1)).bind fun t15 => if 0 ≤ t15 then (some false) else ((spec_HolderOf.f kq ((a1.drop (0 : Int).toNat).take (v6.toNat - (0 : Int).toNat)) ((rdD z69 a1 v6).f2)).bind fun t16 => if 0 ≤ t16 then (some false) else (spec_RobotsOk.l0 kq a1 a0 (w64 (v6 + 1))))) else none) else ((spec_Beside.f kq a0 ((rdD z69 a1 v6).f1) ((rdD z69 a1 v6).f2)).bind fun t17 => if t17 = true then (if v6 ≤ (a1.length : Int) then ((spec_HolderOf.f kq ((a1.drop (0 : Int).toNat).take (v6.toNat - (0 : Int).toNat)) ((rdD z69 a1 v6).f1)).bind fun t18 => if 0 ≤ t18 then (some false) else ((spec_HolderOf.f kq ((a1.drop (0 : Int).toNat).take (v6.toNat - (0 : Int).toNat)) ((rdD z69 a1 v6).f2)).bind fun t19 => if 0 ≤ t19 then (some false) else (spec_RobotsOk.l0 kq a1 a0 (w64 (v6 + 1))))) else none) else (some false))) else (some false))) else (some false)) else none) else (some true)
def spec_RobotsOk.f (k : Nat) (a0 : S38) (a1 : List S69) : Option Bool := (spec_GridOk.f k a0).bind fun t1 => if t1 = true then (if 10 < (a1.length : Int) then (some false) else (spec_RobotsOk.l0 k a1 a0 0)) else (some false)
theorem spec_RobotsOk.go : Callable prog 77 := ⟨_, func77, by kernel_rfl, rfl⟩
theorem spec_RobotsOk.ok (k : Nat) (a0 : S38) (a1 : List S69) (r : Bool) (h : spec_RobotsOk.f k a0 a1 = some r) : VCalls prog 77 [.agg (e38 a0), .c (R 4 e69 z69 a1)] [.c (.p (.sc (.bool r)))] := by
  unfold spec_RobotsOk.f at h
  refine VCalls.of (fn := f77) (N := 81) func77 rfl rfl (fun w0 => ?_)
  obtain ⟨t1, g1, h⟩ := bindN h
  let C1 := mkCon (spec_GridOk.ok k a0 t1 g1) spec_GridOk.go
  by_cases c2 : t1 = true
  · replace h := ip c2 h
    by_cases c3 : 10 < (a1.length : Int)
    · replace h := ip c3 h
      cases h
      exact rt func77 [.call C1, .dec 10 false, .b true, .fin] (oc C1 (o1 (bnf c2) (oT c3 on)))
    · replace h := iq c3 h
      have H0 : ∀ (kq : Nat) (v6 : Int), spec_RobotsOk.l0 kq a1 a0 v6 = some r → AG prog 77 81 [.c (.p (.sc (.bool r)))] w0 (headStk (codeOf f77) 0) (mkFS (spec_RobotsOk.h0T a1 v6 a0) (spec_RobotsOk.h0H a1 v6 a0)) := by
        intro kq
        induction kq with
        | zero => intro v6 h; cases h
        | succ kq ih =>
          intro v6 h
          rw [spec_RobotsOk.l0] at h
          by_cases c19 : v6 < (a1.length : Int)
          · replace h := ip c19 h
            obtain ⟨c20, h⟩ := ifN h
            obtain ⟨t7, g21, h⟩ := bindN h
            let C21 := mkCon (spec_l01In.ok ((rdD z69 a1 v6).f0) 0 99 t7 g21) spec_l01In.go
            by_cases c22 : t7 = true
            · replace h := ip c22 h
              by_cases c23 : 0 < v6
              · replace h := ip c23 h
                obtain ⟨c24, h⟩ := ifN h
                obtain ⟨c25, h⟩ := ifN h
                by_cases c26 : (rdD z69 a1 v6).f0 ≤ (rdD z69 a1 (w64 (v6 - 1))).f0
                · replace h := ip c26 h
                  cases h
                  exact rt func77 [.b true, .call C21, .dec 29 false, .dec 32 true, .dec 44 true, .b true, .fin] (oT c19 (o1 c20 (o1 c19 (oc C21 (o1 (bnf c22) (oT c23 (o1 c24 (o1 c25 (oT c26 (oR on))))))))))
                · replace h := iq c26 h
                  obtain ⟨t8, g27, h⟩ := bindN h
                  let C27 := mkCon (spec_FreeAt.ok kq a0 ((rdD z69 a1 v6).f1) t8 g27) spec_FreeAt.go
                  by_cases c28 : t8 = true
                  · replace h := ip c28 h
                    by_cases c29 : (rdD z69 a1 v6).f2 = (-1)
                    · replace h := ip c29 h
                      obtain ⟨c30, h⟩ := ifN h
                      obtain ⟨t9, g31, h⟩ := bindN h
                      let C31 := mkCon (spec_HolderOf.ok kq ((a1.drop (0 : Int).toNat).take (v6.toNat - (0 : Int).toNat)) ((rdD z69 a1 v6).f1) t9 g31) spec_HolderOf.go
                      by_cases c32 : 0 ≤ t9
                      · replace h := ip c32 h
                        cases h
                        exact rt func77 [.b true, .call C21, .dec 29 false, .dec 32 true, .dec 44 false, .call C27, .dec 51 false, .dec 55 false, .b false, .cst 67 (R 4 e69 z69 ((a1.drop (0 : Int).toNat).take (v6.toNat - (0 : Int).toNat))), .call C31, .dec 72 true, .b true, .fin] (oT c19 (o1 c20 (o1 c19 (oc C21 (o1 (bnf c22) (oT c23 (o1 c24 (o1 c25 (oF c26 (oc C27 (o1 (bnf c28) (o1 (bnf (decide_eq_true c29)) (o1 (rfl : false = false) (o1 (by decide : (0 : Int) ≤ 0) (o1 c20 (o1 c30 (o1 (VE.cut (z := 4) (e := e69) (d := z69) a1 (n := a1.length) (lo := 0) (hi := v6) rfl (by decide : (0 : Int) ≤ 0) c20 c30) (oc C31 (oT c32 (oR on))))))))))))))))))))
                      · replace h := iq c32 h
                        obtain ⟨t10, g33, h⟩ := bindN h
                        let C33 := mkCon (spec_HolderOf.ok kq ((a1.drop (0 : Int).toNat).take (v6.toNat - (0 : Int).toNat)) ((rdD z69 a1 v6).f2) t10 g33) spec_HolderOf.go
                        by_cases c34 : 0 ≤ t10
                        · replace h := ip c34 h
                          cases h
                          exact rt func77 [.b true, .call C21, .dec 29 false, .dec 32 true, .dec 44 false, .call C27, .dec 51 false, .dec 55 false, .b false, .cst 67 (R 4 e69 z69 ((a1.drop (0 : Int).toNat).take (v6.toNat - (0 : Int).toNat))), .call C31, .dec 72 false, .cst 75 (R 4 e69 z69 ((a1.drop (0 : Int).toNat).take (v6.toNat - (0 : Int).toNat))), .call C33, .b true, .fin] (oT c19 (o1 c20 (o1 c19 (oc C21 (o1 (bnf c22) (oT c23 (o1 c24 (o1 c25 (oF c26 (oc C27 (o1 (bnf c28) (o1 (bnf (decide_eq_true c29)) (o1 (rfl : false = false) (o1 (by decide : (0 : Int) ≤ 0) (o1 c20 (o1 c30 (o1 (VE.cut (z := 4) (e := e69) (d := z69) a1 (n := a1.length) (lo := 0) (hi := v6) rfl (by decide : (0 : Int) ≤ 0) c20 c30) (oc C31 (oF c32 (o1 (by decide : (0 : Int) ≤ 0) (o1 c20 (o1 c30 (o1 (VE.cut (z := 4) (e := e69) (d := z69) a1 (n := a1.length) (lo := 0) (hi := v6) rfl (by decide : (0 : Int) ≤ 0) c20 c30) (oc C33 (oT c34 on)))))))))))))))))))))))))
                        · replace h := iq c34 h
                          exact hd func77 [.b true, .call C21, .dec 29 false, .dec 32 true, .dec 44 false, .call C27, .dec 51 false, .dec 55 false, .b false, .cst 67 (R 4 e69 z69 ((a1.drop (0 : Int).toNat).take (v6.toNat - (0 : Int).toNat))), .call C31, .dec 72 false, .cst 75 (R 4 e69 z69 ((a1.drop (0 : Int).toNat).take (v6.toNat - (0 : Int).toNat))), .call C33, .b false, .fin] (oT c19 (o1 c20 (o1 c19 (oc C21 (o1 (bnf c22) (oT c23 (o1 c24 (o1 c25 (oF c26 (oc C27 (o1 (bnf c28) (o1 (bnf (decide_eq_true c29)) (o1 (rfl : false = false) (o1 (by decide : (0 : Int) ≤ 0) (o1 c20 (o1 c30 (o1 (VE.cut (z := 4) (e := e69) (d := z69) a1 (n := a1.length) (lo := 0) (hi := v6) rfl (by decide : (0 : Int) ≤ 0) c20 c30) (oc C31 (oF c32 (o1 (by decide : (0 : Int) ≤ 0) (o1 c20 (o1 c30 (o1 (VE.cut (z := 4) (e := e69) (d := z69) a1 (n := a1.length) (lo := 0) (hi := v6) rfl (by decide : (0 : Int) ≤ 0) c20 c30) (oc C33 (oF c34 on))))))))))))))))))))))))) (ih (w64 (v6 + 1)) h)
                    · replace h := iq c29 h
                      obtain ⟨t11, g35, h⟩ := bindN h
                      let C35 := mkCon (spec_Beside.ok kq a0 ((rdD z69 a1 v6).f1) ((rdD z69 a1 v6).f2) t11 g35) spec_Beside.go
                      by_cases c36 : t11 = true
                      · replace h := ip c36 h
                        obtain ⟨c37, h⟩ := ifN h
                        obtain ⟨t12, g38, h⟩ := bindN h
                        let C38 := mkCon (spec_HolderOf.ok kq ((a1.drop (0 : Int).toNat).take (v6.toNat - (0 : Int).toNat)) ((rdD z69 a1 v6).f1) t12 g38) spec_HolderOf.go
                        by_cases c39 : 0 ≤ t12
                        · replace h := ip c39 h
                          cases h
                          exact rt func77 [.b true, .call C21, .dec 29 false, .dec 32 true, .dec 44 false, .call C27, .dec 51 false, .dec 55 true, .call C35, .b false, .cst 67 (R 4 e69 z69 ((a1.drop (0 : Int).toNat).take (v6.toNat - (0 : Int).toNat))), .call C38, .dec 72 true, .b true, .fin] (oT c19 (o1 c20 (o1 c19 (oc C21 (o1 (bnf c22) (oT c23 (o1 c24 (o1 c25 (oF c26 (oc C27 (o1 (bnf c28) (o1 (bnt (decide_eq_false c29)) (oc C35 (o1 (bnf c36) (o1 (by decide : (0 : Int) ≤ 0) (o1 c20 (o1 c37 (o1 (VE.cut (z := 4) (e := e69) (d := z69) a1 (n := a1.length) (lo := 0) (hi := v6) rfl (by decide : (0 : Int) ≤ 0) c20 c37) (oc C38 (oT c39 (oR on)))))))))))))))))))))
                        · replace h := iq c39 h
                          obtain ⟨t13, g40, h⟩ := bindN h
                          let C40 := mkCon (spec_HolderOf.ok kq ((a1.drop (0 : Int).toNat).take (v6.toNat - (0 : Int).toNat)) ((rdD z69 a1 v6).f2) t13 g40) spec_HolderOf.go
                          by_cases c41 : 0 ≤ t13
                          · replace h := ip c41 h
                            cases h
                            exact rt func77 [.b true, .call C21, .dec 29 false, .dec 32 true, .dec 44 false, .call C27, .dec 51 false, .dec 55 true, .call C35, .b false, .cst 67 (R 4 e69 z69 ((a1.drop (0 : Int).toNat).take (v6.toNat - (0 : Int).toNat))), .call C38, .dec 72 false, .cst 75 (R 4 e69 z69 ((a1.drop (0 : Int).toNat).take (v6.toNat - (0 : Int).toNat))), .call C40, .b true, .fin] (oT c19 (o1 c20 (o1 c19 (oc C21 (o1 (bnf c22) (oT c23 (o1 c24 (o1 c25 (oF c26 (oc C27 (o1 (bnf c28) (o1 (bnt (decide_eq_false c29)) (oc C35 (o1 (bnf c36) (o1 (by decide : (0 : Int) ≤ 0) (o1 c20 (o1 c37 (o1 (VE.cut (z := 4) (e := e69) (d := z69) a1 (n := a1.length) (lo := 0) (hi := v6) rfl (by decide : (0 : Int) ≤ 0) c20 c37) (oc C38 (oF c39 (o1 (by decide : (0 : Int) ≤ 0) (o1 c20 (o1 c37 (o1 (VE.cut (z := 4) (e := e69) (d := z69) a1 (n := a1.length) (lo := 0) (hi := v6) rfl (by decide : (0 : Int) ≤ 0) c20 c37) (oc C40 (oT c41 on))))))))))))))))))))))))))
                          · replace h := iq c41 h
                            exact hd func77 [.b true, .call C21, .dec 29 false, .dec 32 true, .dec 44 false, .call C27, .dec 51 false, .dec 55 true, .call C35, .b false, .cst 67 (R 4 e69 z69 ((a1.drop (0 : Int).toNat).take (v6.toNat - (0 : Int).toNat))), .call C38, .dec 72 false, .cst 75 (R 4 e69 z69 ((a1.drop (0 : Int).toNat).take (v6.toNat - (0 : Int).toNat))), .call C40, .b false, .fin] (oT c19 (o1 c20 (o1 c19 (oc C21 (o1 (bnf c22) (oT c23 (o1 c24 (o1 c25 (oF c26 (oc C27 (o1 (bnf c28) (o1 (bnt (decide_eq_false c29)) (oc C35 (o1 (bnf c36) (o1 (by decide : (0 : Int) ≤ 0) (o1 c20 (o1 c37 (o1 (VE.cut (z := 4) (e := e69) (d := z69) a1 (n := a1.length) (lo := 0) (hi := v6) rfl (by decide : (0 : Int) ≤ 0) c20 c37) (oc C38 (oF c39 (o1 (by decide : (0 : Int) ≤ 0) (o1 c20 (o1 c37 (o1 (VE.cut (z := 4) (e := e69) (d := z69) a1 (n := a1.length) (lo := 0) (hi := v6) rfl (by decide : (0 : Int) ≤ 0) c20 c37) (oc C40 (oF c41 on)))))))))))))))))))))))))) (ih (w64 (v6 + 1)) h)
                      · replace h := iq c36 h
                        cases h
                        exact rt func77 [.b true, .call C21, .dec 29 false, .dec 32 true, .dec 44 false, .call C27, .dec 51 false, .dec 55 true, .call C35, .b true, .fin] (oT c19 (o1 c20 (o1 c19 (oc C21 (o1 (bnf c22) (oT c23 (o1 c24 (o1 c25 (oF c26 (oc C27 (o1 (bnf c28) (o1 (bnt (decide_eq_false c29)) (oc C35 (oN c36 on))))))))))))))
                  · replace h := iq c28 h
                    cases h
                    exact rt func77 [.b true, .call C21, .dec 29 false, .dec 32 true, .dec 44 false, .call C27, .dec 51 true, .b true, .fin] (oT c19 (o1 c20 (o1 c19 (oc C21 (o1 (bnf c22) (oT c23 (o1 c24 (o1 c25 (oF c26 (oc C27 (oN c28 (oR on))))))))))))
              · replace h := iq c23 h
                obtain ⟨t14, g42, h⟩ := bindN h
                let C42 := mkCon (spec_FreeAt.ok kq a0 ((rdD z69 a1 v6).f1) t14 g42) spec_FreeAt.go
                by_cases c43 : t14 = true
                · replace h := ip c43 h
                  by_cases c44 : (rdD z69 a1 v6).f2 = (-1)
                  · replace h := ip c44 h
                    obtain ⟨c45, h⟩ := ifN h
                    obtain ⟨t15, g46, h⟩ := bindN h
                    let C46 := mkCon (spec_HolderOf.ok kq ((a1.drop (0 : Int).toNat).take (v6.toNat - (0 : Int).toNat)) ((rdD z69 a1 v6).f1) t15 g46) spec_HolderOf.go
                    by_cases c47 : 0 ≤ t15
                    · replace h := ip c47 h
                      cases h
                      exact rt func77 [.b true, .call C21, .dec 29 false, .dec 32 false, .call C42, .dec 51 false, .dec 55 false, .b false, .cst 67 (R 4 e69 z69 ((a1.drop (0 : Int).toNat).take (v6.toNat - (0 : Int).toNat))), .call C46, .dec 72 true, .b true, .fin] (oT c19 (o1 c20 (o1 c19 (oc C21 (o1 (bnf c22) (oF c23 (oc C42 (o1 (bnf c43) (o1 (bnf (decide_eq_true c44)) (o1 (rfl : false = false) (o1 (by decide : (0 : Int) ≤ 0) (o1 c20 (o1 c45 (o1 (VE.cut (z := 4) (e := e69) (d := z69) a1 (n := a1.length) (lo := 0) (hi := v6) rfl (by decide : (0 : Int) ≤ 0) c20 c45) (oc C46 (oT c47 (oR on)))))))))))))))))
                    · replace h := iq c47 h
                      obtain ⟨t16, g48, h⟩ := bindN h
                      let C48 := mkCon (spec_HolderOf.ok kq ((a1.drop (0 : Int).toNat).take (v6.toNat - (0 : Int).toNat)) ((rdD z69 a1 v6).f2) t16 g48) spec_HolderOf.go
                      by_cases c49 : 0 ≤ t16
                      · replace h := ip c49 h
                        cases h
                        exact rt func77 [.b true, .call C21, .dec 29 false, .dec 32 false, .call C42, .dec 51 false, .dec 55 false, .b false, .cst 67 (R 4 e69 z69 ((a1.drop (0 : Int).toNat).take (v6.toNat - (0 : Int).toNat))), .call C46, .dec 72 false, .cst 75 (R 4 e69 z69 ((a1.drop (0 : Int).toNat).take (v6.toNat - (0 : Int).toNat))), .call C48, .b true, .fin] (oT c19 (o1 c20 (o1 c19 (oc C21 (o1 (bnf c22) (oF c23 (oc C42 (o1 (bnf c43) (o1 (bnf (decide_eq_true c44)) (o1 (rfl : false = false) (o1 (by decide : (0 : Int) ≤ 0) (o1 c20 (o1 c45 (o1 (VE.cut (z := 4) (e := e69) (d := z69) a1 (n := a1.length) (lo := 0) (hi := v6) rfl (by decide : (0 : Int) ≤ 0) c20 c45) (oc C46 (oF c47 (o1 (by decide : (0 : Int) ≤ 0) (o1 c20 (o1 c45 (o1 (VE.cut (z := 4) (e := e69) (d := z69) a1 (n := a1.length) (lo := 0) (hi := v6) rfl (by decide : (0 : Int) ≤ 0) c20 c45) (oc C48 (oT c49 on))))))))))))))))))))))
                      · replace h := iq c49 h
                        exact hd func77 [.b true, .call C21, .dec 29 false, .dec 32 false, .call C42, .dec 51 false, .dec 55 false, .b false, .cst 67 (R 4 e69 z69 ((a1.drop (0 : Int).toNat).take (v6.toNat - (0 : Int).toNat))), .call C46, .dec 72 false, .cst 75 (R 4 e69 z69 ((a1.drop (0 : Int).toNat).take (v6.toNat - (0 : Int).toNat))), .call C48, .b false, .fin] (oT c19 (o1 c20 (o1 c19 (oc C21 (o1 (bnf c22) (oF c23 (oc C42 (o1 (bnf c43) (o1 (bnf (decide_eq_true c44)) (o1 (rfl : false = false) (o1 (by decide : (0 : Int) ≤ 0) (o1 c20 (o1 c45 (o1 (VE.cut (z := 4) (e := e69) (d := z69) a1 (n := a1.length) (lo := 0) (hi := v6) rfl (by decide : (0 : Int) ≤ 0) c20 c45) (oc C46 (oF c47 (o1 (by decide : (0 : Int) ≤ 0) (o1 c20 (o1 c45 (o1 (VE.cut (z := 4) (e := e69) (d := z69) a1 (n := a1.length) (lo := 0) (hi := v6) rfl (by decide : (0 : Int) ≤ 0) c20 c45) (oc C48 (oF c49 on)))))))))))))))))))))) (ih (w64 (v6 + 1)) h)
                  · replace h := iq c44 h
                    obtain ⟨t17, g50, h⟩ := bindN h
                    let C50 := mkCon (spec_Beside.ok kq a0 ((rdD z69 a1 v6).f1) ((rdD z69 a1 v6).f2) t17 g50) spec_Beside.go
                    by_cases c51 : t17 = true
                    · replace h := ip c51 h
                      obtain ⟨c52, h⟩ := ifN h
                      obtain ⟨t18, g53, h⟩ := bindN h
                      let C53 := mkCon (spec_HolderOf.ok kq ((a1.drop (0 : Int).toNat).take (v6.toNat - (0 : Int).toNat)) ((rdD z69 a1 v6).f1) t18 g53) spec_HolderOf.go
                      by_cases c54 : 0 ≤ t18
                      · replace h := ip c54 h
                        cases h
                        exact rt func77 [.b true, .call C21, .dec 29 false, .dec 32 false, .call C42, .dec 51 false, .dec 55 true, .call C50, .b false, .cst 67 (R 4 e69 z69 ((a1.drop (0 : Int).toNat).take (v6.toNat - (0 : Int).toNat))), .call C53, .dec 72 true, .b true, .fin] (oT c19 (o1 c20 (o1 c19 (oc C21 (o1 (bnf c22) (oF c23 (oc C42 (o1 (bnf c43) (o1 (bnt (decide_eq_false c44)) (oc C50 (o1 (bnf c51) (o1 (by decide : (0 : Int) ≤ 0) (o1 c20 (o1 c52 (o1 (VE.cut (z := 4) (e := e69) (d := z69) a1 (n := a1.length) (lo := 0) (hi := v6) rfl (by decide : (0 : Int) ≤ 0) c20 c52) (oc C53 (oT c54 (oR on))))))))))))))))))
                      · replace h := iq c54 h
                        obtain ⟨t19, g55, h⟩ := bindN h
                        let C55 := mkCon (spec_HolderOf.ok kq ((a1.drop (0 : Int).toNat).take (v6.toNat - (0 : Int).toNat)) ((rdD z69 a1 v6).f2) t19 g55) spec_HolderOf.go
                        by_cases c56 : 0 ≤ t19
                        · replace h := ip c56 h
                          cases h
                          exact rt func77 [.b true, .call C21, .dec 29 false, .dec 32 false, .call C42, .dec 51 false, .dec 55 true, .call C50, .b false, .cst 67 (R 4 e69 z69 ((a1.drop (0 : Int).toNat).take (v6.toNat - (0 : Int).toNat))), .call C53, .dec 72 false, .cst 75 (R 4 e69 z69 ((a1.drop (0 : Int).toNat).take (v6.toNat - (0 : Int).toNat))), .call C55, .b true, .fin] (oT c19 (o1 c20 (o1 c19 (oc C21 (o1 (bnf c22) (oF c23 (oc C42 (o1 (bnf c43) (o1 (bnt (decide_eq_false c44)) (oc C50 (o1 (bnf c51) (o1 (by decide : (0 : Int) ≤ 0) (o1 c20 (o1 c52 (o1 (VE.cut (z := 4) (e := e69) (d := z69) a1 (n := a1.length) (lo := 0) (hi := v6) rfl (by decide : (0 : Int) ≤ 0) c20 c52) (oc C53 (oF c54 (o1 (by decide : (0 : Int) ≤ 0) (o1 c20 (o1 c52 (o1 (VE.cut (z := 4) (e := e69) (d := z69) a1 (n := a1.length) (lo := 0) (hi := v6) rfl (by decide : (0 : Int) ≤ 0) c20 c52) (oc C55 (oT c56 on)))))))))))))))))))))))
                        · replace h := iq c56 h
                          exact hd func77 [.b true, .call C21, .dec 29 false, .dec 32 false, .call C42, .dec 51 false, .dec 55 true, .call C50, .b false, .cst 67 (R 4 e69 z69 ((a1.drop (0 : Int).toNat).take (v6.toNat - (0 : Int).toNat))), .call C53, .dec 72 false, .cst 75 (R 4 e69 z69 ((a1.drop (0 : Int).toNat).take (v6.toNat - (0 : Int).toNat))), .call C55, .b false, .fin] (oT c19 (o1 c20 (o1 c19 (oc C21 (o1 (bnf c22) (oF c23 (oc C42 (o1 (bnf c43) (o1 (bnt (decide_eq_false c44)) (oc C50 (o1 (bnf c51) (o1 (by decide : (0 : Int) ≤ 0) (o1 c20 (o1 c52 (o1 (VE.cut (z := 4) (e := e69) (d := z69) a1 (n := a1.length) (lo := 0) (hi := v6) rfl (by decide : (0 : Int) ≤ 0) c20 c52) (oc C53 (oF c54 (o1 (by decide : (0 : Int) ≤ 0) (o1 c20 (o1 c52 (o1 (VE.cut (z := 4) (e := e69) (d := z69) a1 (n := a1.length) (lo := 0) (hi := v6) rfl (by decide : (0 : Int) ≤ 0) c20 c52) (oc C55 (oF c56 on))))))))))))))))))))))) (ih (w64 (v6 + 1)) h)
                    · replace h := iq c51 h
                      cases h
                      exact rt func77 [.b true, .call C21, .dec 29 false, .dec 32 false, .call C42, .dec 51 false, .dec 55 true, .call C50, .b true, .fin] (oT c19 (o1 c20 (o1 c19 (oc C21 (o1 (bnf c22) (oF c23 (oc C42 (o1 (bnf c43) (o1 (bnt (decide_eq_false c44)) (oc C50 (oN c51 on)))))))))))
                · replace h := iq c43 h
                  cases h
                  exact rt func77 [.b true, .call C21, .dec 29 false, .dec 32 false, .call C42, .dec 51 true, .b true, .fin] (oT c19 (o1 c20 (o1 c19 (oc C21 (o1 (bnf c22) (oF c23 (oc C42 (oN c43 (oR on)))))))))
            · replace h := iq c22 h
              cases h
              exact rt func77 [.b true, .call C21, .dec 29 true, .b true, .fin] (oT c19 (o1 c20 (o1 c19 (oc C21 (oN c22 (oR on))))))
          · replace h := iq c19 h
            cases h
            exact rt func77 [.b false, .fin, .fin] (oF c19 on)
      exact hd func77 [.call C1, .dec 10 false, .b false, .fin] (oc C1 (o1 (bnf c2) (oF c3 on))) (H0 k 0 h)
  · replace h := iq c2 h
    cases h
    exact rt func77 [.call C1, .dec 10 true, .b true, .fin] (oc C1 (oN c2 (oR on)))

/-! ### spec_WindowOk: function 78 -/
def spec_WindowOk.h0T (v4 : Int) (a0 : S42) : List (Nat × AV) := [(1, .ptr 64 0), (3, .t (.c (.p true (iI v4))))]
def spec_WindowOk.h0H (v4 : Int) (a0 : S42) : List (Nat × Content) := [(64, .box 42 [.p false (iI a0.f0), .p false (iI a0.f1), .p false (R 1 (eI .i64) 0 a0.f2)])]
def spec_WindowOk.l0 : Nat → S42 → Int → Option Bool
  | 0, _, _ => none
  | kq + 1, a0, v4 => if v4 < (a0.f2.length : Int) then (if 0 ≤ v4 then ((spec_l01In.f (rdD 0 a0.f2 v4) 0 a0.f1).bind fun t5 => if t5 = true then (spec_WindowOk.l0 kq a0 (w64 (v4 + 1))) else (some false)) else none) else (some true)
def spec_WindowOk.f (k : Nat) (a0 : S42) : Option Bool := (spec_l01In.f a0.f0 1 8).bind fun t1 => if t1 = true then ((spec_l01In.f a0.f1 1 100).bind fun t2 => if t2 = true then (if (a0.f2.length : Int) = (w64 (a0.f0 * 6)) then (spec_WindowOk.l0 k a0 0) else (some false)) else (some false)) else (some false)
theorem spec_WindowOk.go : Callable prog 78 := ⟨_, func78, by kernel_rfl, rfl⟩
theorem spec_WindowOk.ok (k : Nat) (a0 : S42) (r : Bool) (h : spec_WindowOk.f k a0 = some r) : VCalls prog 78 [.agg (e42 a0)] [.c (.p (.sc (.bool r)))] := by
  unfold spec_WindowOk.f at h
  refine VCalls.of (fn := f78) (N := 39) func78 rfl rfl (fun w0 => ?_)
  obtain ⟨t1, g1, h⟩ := bindN h
  let C1 := mkCon (spec_l01In.ok a0.f0 1 8 t1 g1) spec_l01In.go
  by_cases c2 : t1 = true
  · replace h := ip c2 h
    obtain ⟨t2, g3, h⟩ := bindN h
    let C3 := mkCon (spec_l01In.ok a0.f1 1 100 t2 g3) spec_l01In.go
    by_cases c4 : t2 = true
    · replace h := ip c4 h
      by_cases c5 : (a0.f2.length : Int) = (w64 (a0.f0 * 6))
      · replace h := ip c5 h
        have H0 : ∀ (kq : Nat) (v4 : Int), spec_WindowOk.l0 kq a0 v4 = some r → AG prog 78 39 [.c (.p (.sc (.bool r)))] w0 (headStk (codeOf f78) 0) (mkFS (spec_WindowOk.h0T v4 a0) (spec_WindowOk.h0H v4 a0)) := by
          intro kq
          induction kq with
          | zero => intro v4 h; cases h
          | succ kq ih =>
            intro v4 h
            rw [spec_WindowOk.l0] at h
            by_cases c9 : v4 < (a0.f2.length : Int)
            · replace h := ip c9 h
              obtain ⟨c10, h⟩ := ifN h
              obtain ⟨t5, g11, h⟩ := bindN h
              let C11 := mkCon (spec_l01In.ok (rdD 0 a0.f2 v4) 0 a0.f1 t5 g11) spec_l01In.go
              by_cases c12 : t5 = true
              · replace h := ip c12 h
                exact hd func78 [.b true, .call C11, .b false, .fin] (oT c9 (o1 c10 (o1 c9 (oc C11 (o1 (bnf c12) on))))) (ih (w64 (v4 + 1)) h)
              · replace h := iq c12 h
                cases h
                exact rt func78 [.b true, .call C11, .b true, .fin] (oT c9 (o1 c10 (o1 c9 (oc C11 (oN c12 on)))))
            · replace h := iq c9 h
              cases h
              exact rt func78 [.b false, .fin, .fin] (oF c9 on)
        exact hd func78 [.call C1, .dec 8 false, .call C3, .dec 14 false, .b false, .fin] (oc C1 (o1 (bnf c2) (oc C3 (o1 (bnf c4) (o1 (bnf (decide_eq_true c5)) on))))) (H0 k 0 h)
      · replace h := iq c5 h
        cases h
        exact rt func78 [.call C1, .dec 8 false, .call C3, .dec 14 false, .b true, .fin] (oc C1 (o1 (bnf c2) (oc C3 (o1 (bnf c4) (o1 (bnt (decide_eq_false c5)) on)))))
    · replace h := iq c4 h
      cases h
      exact rt func78 [.call C1, .dec 8 false, .call C3, .dec 14 true, .b true, .fin] (oc C1 (o1 (bnf c2) (oc C3 (oN c4 (oR on)))))
  · replace h := iq c2 h
    cases h
    exact rt func78 [.call C1, .dec 8 true, .b true, .fin] (oc C1 (oN c2 (oR on)))

/-! ### spec_RobotAt: function 57 -/
def spec_RobotAt.h0T (a0 : List S69) (a1 : Int) (v1 : Int) : List (Nat × AV) := [(0, .t (.c (.p false (R 4 e69 z69 a0)))), (1, .t (.c (.p false (iI a1)))), (5, .t (.c (.p true (iI v1))))]
def spec_RobotAt.h0H (a0 : List S69) (a1 : Int) (v1 : Int) : List (Nat × Content) := []
def spec_RobotAt.l0 : Nat → List S69 → Int → Int → Option Int
  | 0, _, _, _ => none
  | kq + 1, a0, a1, v1 => if v1 < (a0.length : Int) then (if 0 ≤ v1 then (if (rdD z69 a0 v1).f0 = a1 then (some v1) else (spec_RobotAt.l0 kq a0 a1 (w64 (v1 + 1)))) else none) else (some (-1))
def spec_RobotAt.f (k : Nat) (a0 : List S69) (a1 : Int) : Option Int := spec_RobotAt.l0 k a0 a1 0
theorem spec_RobotAt.go : Callable prog 57 := ⟨_, func57, by kernel_rfl, rfl⟩
theorem spec_RobotAt.ok (k : Nat) (a0 : List S69) (a1 : Int) (r : Int) (h : spec_RobotAt.f k a0 a1 = some r) : VCalls prog 57 [.c (R 4 e69 z69 a0), .c (iI a1)] [.c (.p (iI r))] := by
  unfold spec_RobotAt.f at h
  refine VCalls.of (fn := f57) (N := 20) func57 rfl rfl (fun w0 => ?_)
  have H0 : ∀ (kq : Nat) (v1 : Int), spec_RobotAt.l0 kq a0 a1 v1 = some r → AG prog 57 20 [.c (.p (iI r))] w0 (headStk (codeOf f57) 0) (mkFS (spec_RobotAt.h0T a0 a1 v1) (spec_RobotAt.h0H a0 a1 v1)) := by
    intro kq
    induction kq with
    | zero => intro v1 h; cases h
    | succ kq ih =>
      intro v1 h
      rw [spec_RobotAt.l0] at h
      by_cases c3 : v1 < (a0.length : Int)
      · replace h := ip c3 h
        obtain ⟨c4, h⟩ := ifN h
        by_cases c5 : (rdD z69 a0 v1).f0 = a1
        · replace h := ip c5 h
          cases h
          exact rt func57 [.b true, .b true, .fin] (oT c3 (o1 c4 (o1 c3 (oT c5 on))))
        · replace h := iq c5 h
          exact hd func57 [.b true, .b false, .fin] (oT c3 (o1 c4 (o1 c3 (oF c5 on)))) (ih (w64 (v1 + 1)) h)
      · replace h := iq c3 h
        cases h
        exact rt func57 [.b false, .fin, .fin] (oF c3 on)
  exact hd func57 [.fin] on (H0 k 0 h)

/-! ### spec_LayerOf: function 51 -/
def spec_LayerOf.h0T (v2 : Int) (v3 : Int) (a0 : S48) : List (Nat × AV) := [(1, .ptr 64 0), (3, .t (.c (.p true (iI v2)))), (4, .t (.c (.p true (iI v3))))]
def spec_LayerOf.h0H (v2 : Int) (v3 : Int) (a0 : S48) : List (Nat × Content) := [(64, .box 48 [.p false (iI a0.f0.f0.f0), .p false (iI a0.f0.f0.f1), .p false (.sc (.string a0.f0.f0.f2)), .p false (iI a0.f0.f1), .p false (iI a0.f0.f2), .p false (iI a0.f0.f3), .p false (iI a0.f0.f4), .p false (R 4 e69 z69 a0.f1), .p false (iI a0.f2.f0), .p false (iI a0.f2.f1), .p false (R 1 (eI .i64) 0 a0.f2.f2), .p false (iI a0.f3), .p false (.sc (.bool a0.f4)), .p false (iI a0.f5.f0), .p false (iI a0.f5.f1), .p false (R 1 e72 z72 a0.f5.f2), .p false (R 3 e74 z74 a0.f6), .p false (R 1 (eI .i64) 0 a0.f7)])]
def spec_LayerOf.l0 : Nat → S48 → Int → Int → Option Int
  | 0, _, _, _ => none
  | kq + 1, a0, v2, v3 => if v3 < (a0.f6.length : Int) then (if v3 = 0 then (if 0 ≤ v3 then (spec_LayerOf.l0 kq a0 ((rdD z74 a0.f6 v3).f1) (w64 (v3 + 1))) else none) else (if 0 ≤ v3 then (if (rdD z74 a0.f6 v3).f1 < v2 then (spec_LayerOf.l0 kq a0 ((rdD z74 a0.f6 v3).f1) (w64 (v3 + 1))) else (spec_LayerOf.l0 kq a0 v2 (w64 (v3 + 1)))) else none)) else (some v2)
def spec_LayerOf.f (k : Nat) (a0 : S48) : Option Int := spec_LayerOf.l0 k a0 (-1) 0
theorem spec_LayerOf.go : Callable prog 51 := ⟨_, func51, by kernel_rfl, rfl⟩
theorem spec_LayerOf.ok (k : Nat) (a0 : S48) (r : Int) (h : spec_LayerOf.f k a0 = some r) : VCalls prog 51 [.agg (e48 a0)] [.c (.p (iI r))] := by
  unfold spec_LayerOf.f at h
  refine VCalls.of (fn := f51) (N := 31) func51 rfl rfl (fun w0 => ?_)
  have H0 : ∀ (kq : Nat) (v2 : Int) (v3 : Int), spec_LayerOf.l0 kq a0 v2 v3 = some r → AG prog 51 31 [.c (.p (iI r))] w0 (headStk (codeOf f51) 0) (mkFS (spec_LayerOf.h0T v2 v3 a0) (spec_LayerOf.h0H v2 v3 a0)) := by
    intro kq
    induction kq with
    | zero => intro v2 v3 h; cases h
    | succ kq ih =>
      intro v2 v3 h
      rw [spec_LayerOf.l0] at h
      by_cases c5 : v3 < (a0.f6.length : Int)
      · replace h := ip c5 h
        by_cases c6 : v3 = 0
        · replace h := ip c6 h
          obtain ⟨c7, h⟩ := ifN h
          exact hd func51 [.b true, .dec 14 true, .b true, .fin] (oT c5 (oT c6 (oR (o1 c7 (o1 c5 on))))) (ih ((rdD z74 a0.f6 v3).f1) (w64 (v3 + 1)) h)
        · replace h := iq c6 h
          obtain ⟨c8, h⟩ := ifN h
          by_cases c9 : (rdD z74 a0.f6 v3).f1 < v2
          · replace h := ip c9 h
            exact hd func51 [.b true, .dec 14 false, .b true, .fin] (oT c5 (oF c6 (o1 c8 (o1 c5 (oT c9 (o1 c8 (o1 c5 on))))))) (ih ((rdD z74 a0.f6 v3).f1) (w64 (v3 + 1)) h)
          · replace h := iq c9 h
            exact hd func51 [.b true, .dec 14 false, .b false, .fin] (oT c5 (oF c6 (o1 c8 (o1 c5 (oF c9 on))))) (ih v2 (w64 (v3 + 1)) h)
      · replace h := iq c5 h
        cases h
        exact rt func51 [.b false, .fin, .fin] (oF c5 on)
  exact hd func51 [.fin] on (H0 k (-1) 0 h)

/-! ### spec_l21Job: function 204 -/
def spec_l21Job.h0T (a1 : Int) (a0 : S48) (t1 : Int) (v4 : Int) : List (Nat × AV) := [(1, .t (.c (.p false (iI a1)))), (2, .ptr 128 0), (5, .ptr 320 0), (6, .t (.c (.p false (R 1 (eI .i64) 0 ((rdD z72 a0.f5.f2 a1).f0))))), (7, .t (.c (.p true (iI t1)))), (8, .t (.c (.p true (iI v4))))]
def spec_l21Job.h0H (a1 : Int) (a0 : S48) (t1 : Int) (v4 : Int) : List (Nat × Content) := [(128, .box 48 [.p false (iI a0.f0.f0.f0), .p false (iI a0.f0.f0.f1), .p false (.sc (.string a0.f0.f0.f2)), .p false (iI a0.f0.f1), .p false (iI a0.f0.f2), .p false (iI a0.f0.f3), .p false (iI a0.f0.f4), .p false (R 4 e69 z69 a0.f1), .p false (iI a0.f2.f0), .p false (iI a0.f2.f1), .p false (R 1 (eI .i64) 0 a0.f2.f2), .p false (iI a0.f3), .p false (.sc (.bool a0.f4)), .p false (iI a0.f5.f0), .p false (iI a0.f5.f1), .p false (R 1 e72 z72 a0.f5.f2), .p false (R 3 e74 z74 a0.f6), .p false (R 1 (eI .i64) 0 a0.f7)]), (320, .box 74 [.p false (.sc (.int .i64 ((rdD z74 a0.f6 a1).f0))), .p false (.sc (.int .i64 ((rdD z74 a0.f6 a1).f1))), .p false (.sc (.bool ((rdD z74 a0.f6 a1).f2)))])]
def spec_l21Job.l0 : Nat → Int → S48 → Int → Int → Option Bool
  | 0, _, _, _, _ => none
  | kq + 1, a1, a0, t1, v4 => if v4 < a1 then (if 0 ≤ v4 then (if v4 < (a0.f6.length : Int) then (if (rdD z74 a0.f6 v4).f0 = (rdD z74 a0.f6 a1).f0 then (some false) else (spec_l21Job.l0 kq a1 a0 t1 (w64 (v4 + 1)))) else none) else none) else (if 0 ≤ (rdD z74 a0.f6 a1).f1 then (if (rdD z74 a0.f6 a1).f1 < (((rdD z72 a0.f5.f2 a1).f0).length : Int) then (if (rdD z69 a0.f1 t1).f1 = (rdD 0 ((rdD z72 a0.f5.f2 a1).f0) ((rdD z74 a0.f6 a1).f1)) then (if (rdD z74 a0.f6 a1).f2 = true then (if (rdD z74 a0.f6 a1).f1 < a0.f5.f0 then (if 0 ≤ (w64 ((rdD z74 a0.f6 a1).f1 + 1)) then (if (w64 ((rdD z74 a0.f6 a1).f1 + 1)) < (((rdD z72 a0.f5.f2 a1).f0).length : Int) then (some (decide ((rdD z69 a0.f1 t1).f2 = (rdD 0 ((rdD z72 a0.f5.f2 a1).f0) (w64 ((rdD z74 a0.f6 a1).f1 + 1)))))) else none) else none) else (some false)) else (some (decide ((rdD z69 a0.f1 t1).f2 = (-1))))) else (some false)) else none) else none)
def spec_l21Job.f (k : Nat) (a0 : S48) (a1 : Int) : Option Bool := if 0 ≤ a1 then (if a1 < (a0.f6.length : Int) then (if a1 < (a0.f5.f2.length : Int) then ((spec_RobotAt.f k a0.f1 ((rdD z74 a0.f6 a1).f0)).bind fun t1 => if (w64 ((((rdD z72 a0.f5.f2 a1).f0).length : Int) - 1)) = a0.f5.f0 then (if t1 < 0 then (some false) else (if 0 ≤ t1 then (if t1 < (a0.f1.length : Int) then (if (rdD z69 a0.f1 t1).f3 = true then (some false) else ((spec_l01In.f ((rdD z74 a0.f6 a1).f1) 0 a0.f5.f0).bind fun t2 => if t2 = true then ((spec_LayerOf.f k a0).bind fun t3 => if (w64 (t3 + 1)) < (rdD z74 a0.f6 a1).f1 then (some false) else (spec_l21Job.l0 k a1 a0 t1 0)) else (some false))) else none) else none)) else (some false)) else none) else none) else none
theorem spec_l21Job.go : Callable prog 204 := ⟨_, func204, by kernel_rfl, rfl⟩
theorem spec_l21Job.ok (k : Nat) (a0 : S48) (a1 : Int) (r : Bool) (h : spec_l21Job.f k a0 a1 = some r) : VCalls prog 204 [.agg (e48 a0), .c (iI a1)] [.c (.p (.sc (.bool r)))] := by
  unfold spec_l21Job.f at h
  refine VCalls.of (fn := f204) (N := 118) func204 rfl rfl (fun w0 => ?_)
  obtain ⟨c1, h⟩ := ifN h
  obtain ⟨c2, h⟩ := ifN h
  obtain ⟨c3, h⟩ := ifN h
  obtain ⟨t1, g4, h⟩ := bindN h
  let C4 := mkCon (spec_RobotAt.ok k a0.f1 ((rdD z74 a0.f6 a1).f0) t1 g4) spec_RobotAt.go
  by_cases c5 : (w64 ((((rdD z72 a0.f5.f2 a1).f0).length : Int) - 1)) = a0.f5.f0
  · replace h := ip c5 h
    by_cases c6 : t1 < 0
    · replace h := ip c6 h
      cases h
      exact rt func204 [.call C4, .dec 33 false, .dec 37 true, .b true, .fin] (o1 c1 (o1 c2 (o1 c1 (o1 c3 (oc C4 (o1 (bnf (decide_eq_true c5)) (oT c6 (oR on))))))))
    · replace h := iq c6 h
      obtain ⟨c7, h⟩ := ifN h
      obtain ⟨c8, h⟩ := ifN h
      by_cases c9 : (rdD z69 a0.f1 t1).f3 = true
      · replace h := ip c9 h
        cases h
        exact rt func204 [.call C4, .dec 33 false, .dec 37 false, .dec 45 true, .b true, .fin] (o1 c1 (o1 c2 (o1 c1 (o1 c3 (oc C4 (o1 (bnf (decide_eq_true c5)) (oF c6 (o1 c7 (o1 c8 (o1 c9 (oR on)))))))))))
      · replace h := iq c9 h
        obtain ⟨t2, g10, h⟩ := bindN h
        let C10 := mkCon (spec_l01In.ok ((rdD z74 a0.f6 a1).f1) 0 a0.f5.f0 t2 g10) spec_l01In.go
        by_cases c11 : t2 = true
        · replace h := ip c11 h
          obtain ⟨t3, g12, h⟩ := bindN h
          let C12 := mkCon (spec_LayerOf.ok k a0 t3 g12) spec_LayerOf.go
          by_cases c13 : (w64 (t3 + 1)) < (rdD z74 a0.f6 a1).f1
          · replace h := ip c13 h
            cases h
            exact rt func204 [.call C4, .dec 33 false, .dec 37 false, .dec 45 false, .call C10, .dec 54 false, .call C12, .b true, .fin] (o1 c1 (o1 c2 (o1 c1 (o1 c3 (oc C4 (o1 (bnf (decide_eq_true c5)) (oF c6 (o1 c7 (o1 c8 (o1 (eqf c9) (oc C10 (o1 (bnf c11) (oc C12 (oT c13 on))))))))))))))
          · replace h := iq c13 h
            have H0 : ∀ (kq : Nat) (v4 : Int), spec_l21Job.l0 kq a1 a0 t1 v4 = some r → AG prog 204 118 [.c (.p (.sc (.bool r)))] w0 (headStk (codeOf f204) 0) (mkFS (spec_l21Job.h0T a1 a0 t1 v4) (spec_l21Job.h0H a1 a0 t1 v4)) := by
              intro kq
              induction kq with
              | zero => intro v4 h; cases h
              | succ kq ih =>
                intro v4 h
                rw [spec_l21Job.l0] at h
                by_cases c17 : v4 < a1
                · replace h := ip c17 h
                  obtain ⟨c18, h⟩ := ifN h
                  obtain ⟨c19, h⟩ := ifN h
                  by_cases c20 : (rdD z74 a0.f6 v4).f0 = (rdD z74 a0.f6 a1).f0
                  · replace h := ip c20 h
                    cases h
                    exact rt func204 [.b true, .b true, .fin] (oT c17 (o1 c18 (o1 c19 (oT c20 on))))
                  · replace h := iq c20 h
                    exact hd func204 [.b true, .b false, .fin] (oT c17 (o1 c18 (o1 c19 (oF c20 on)))) (ih (w64 (v4 + 1)) h)
                · replace h := iq c17 h
                  obtain ⟨c21, h⟩ := ifN h
                  obtain ⟨c22, h⟩ := ifN h
                  by_cases c23 : (rdD z69 a0.f1 t1).f1 = (rdD 0 ((rdD z72 a0.f5.f2 a1).f0) ((rdD z74 a0.f6 a1).f1))
                  · replace h := ip c23 h
                    by_cases c24 : (rdD z74 a0.f6 a1).f2 = true
                    · replace h := ip c24 h
                      by_cases c25 : (rdD z74 a0.f6 a1).f1 < a0.f5.f0
                      · replace h := ip c25 h
                        obtain ⟨c26, h⟩ := ifN h
                        obtain ⟨c27, h⟩ := ifN h
                        cases h
                        exact rt func204 [.b false, .fin, .b false, .b true, .dec 96 true, .fin] (oF c17 (o1 c7 (o1 c8 (o1 c21 (o1 c22 (o1 (bnf (decide_eq_true c23)) (o1 c24 (oT c25 (o1 c7 (o1 c8 (o1 c26 (o1 c27 on))))))))))))
                      · replace h := iq c25 h
                        cases h
                        exact rt func204 [.b false, .fin, .b false, .b true, .dec 96 false, .fin] (oF c17 (o1 c7 (o1 c8 (o1 c21 (o1 c22 (o1 (bnf (decide_eq_true c23)) (o1 c24 (oF c25 on))))))))
                    · replace h := iq c24 h
                      cases h
                      exact rt func204 [.b false, .fin, .b false, .b false, .fin] (oF c17 (o1 c7 (o1 c8 (o1 c21 (o1 c22 (o1 (bnf (decide_eq_true c23)) (o1 (eqf c24) (o1 c7 (o1 c8 on)))))))))
                  · replace h := iq c23 h
                    cases h
                    exact rt func204 [.b false, .fin, .b true, .fin] (oF c17 (o1 c7 (o1 c8 (o1 c21 (o1 c22 (o1 (bnt (decide_eq_false c23)) on))))))
            exact hd func204 [.call C4, .dec 33 false, .dec 37 false, .dec 45 false, .call C10, .dec 54 false, .call C12, .b false, .fin] (o1 c1 (o1 c2 (o1 c1 (o1 c3 (oc C4 (o1 (bnf (decide_eq_true c5)) (oF c6 (o1 c7 (o1 c8 (o1 (eqf c9) (oc C10 (o1 (bnf c11) (oc C12 (oF c13 on)))))))))))))) (H0 k 0 h)
        · replace h := iq c11 h
          cases h
          exact rt func204 [.call C4, .dec 33 false, .dec 37 false, .dec 45 false, .call C10, .dec 54 true, .b true, .fin] (o1 c1 (o1 c2 (o1 c1 (o1 c3 (oc C4 (o1 (bnf (decide_eq_true c5)) (oF c6 (o1 c7 (o1 c8 (o1 (eqf c9) (oc C10 (oN c11 (oR on)))))))))))))
  · replace h := iq c5 h
    cases h
    exact rt func204 [.call C4, .dec 33 true, .b true, .fin] (o1 c1 (o1 c2 (o1 c1 (o1 c3 (oc C4 (o1 (bnt (decide_eq_false c5)) (oR on)))))))

/-! ### spec_l21Jobs: function 148 -/
def spec_l21Jobs.h0T (v3 : Int) (a0 : S48) : List (Nat × AV) := [(1, .ptr 64 0), (3, .t (.c (.p true (iI v3))))]
def spec_l21Jobs.h0H (v3 : Int) (a0 : S48) : List (Nat × Content) := [(64, .box 48 [.p false (iI a0.f0.f0.f0), .p false (iI a0.f0.f0.f1), .p false (.sc (.string a0.f0.f0.f2)), .p false (iI a0.f0.f1), .p false (iI a0.f0.f2), .p false (iI a0.f0.f3), .p false (iI a0.f0.f4), .p false (R 4 e69 z69 a0.f1), .p false (iI a0.f2.f0), .p false (iI a0.f2.f1), .p false (R 1 (eI .i64) 0 a0.f2.f2), .p false (iI a0.f3), .p false (.sc (.bool a0.f4)), .p false (iI a0.f5.f0), .p false (iI a0.f5.f1), .p false (R 1 e72 z72 a0.f5.f2), .p false (R 3 e74 z74 a0.f6), .p false (R 1 (eI .i64) 0 a0.f7)])]
def spec_l21Jobs.l0 : Nat → S48 → Int → Option Bool
  | 0, _, _ => none
  | kq + 1, a0, v3 => if v3 < (a0.f6.length : Int) then ((spec_l21Job.f kq a0 v3).bind fun t4 => if t4 = true then (spec_l21Jobs.l0 kq a0 (w64 (v3 + 1))) else (some false)) else (some true)
def spec_l21Jobs.f (k : Nat) (a0 : S48) : Option Bool := if 20 < a0.f5.f0 then (some false) else ((spec_l01In.f (a0.f6.length : Int) 1 10).bind fun t1 => if t1 = true then (if (a0.f6.length : Int) = (a0.f5.f2.length : Int) then (spec_l21Jobs.l0 k a0 0) else (some false)) else (some false))
theorem spec_l21Jobs.go : Callable prog 148 := ⟨_, func148, by kernel_rfl, rfl⟩
theorem spec_l21Jobs.ok (k : Nat) (a0 : S48) (r : Bool) (h : spec_l21Jobs.f k a0 = some r) : VCalls prog 148 [.agg (e48 a0)] [.c (.p (.sc (.bool r)))] := by
  unfold spec_l21Jobs.f at h
  refine VCalls.of (fn := f148) (N := 36) func148 rfl rfl (fun w0 => ?_)
  by_cases c1 : 20 < a0.f5.f0
  · replace h := ip c1 h
    cases h
    exact rt func148 [.dec 8 true, .b true, .fin] (oT c1 (oR on))
  · replace h := iq c1 h
    obtain ⟨t1, g2, h⟩ := bindN h
    let C2 := mkCon (spec_l01In.ok (a0.f6.length : Int) 1 10 t1 g2) spec_l01In.go
    by_cases c3 : t1 = true
    · replace h := ip c3 h
      by_cases c4 : (a0.f6.length : Int) = (a0.f5.f2.length : Int)
      · replace h := ip c4 h
        have H0 : ∀ (kq : Nat) (v3 : Int), spec_l21Jobs.l0 kq a0 v3 = some r → AG prog 148 36 [.c (.p (.sc (.bool r)))] w0 (headStk (codeOf f148) 0) (mkFS (spec_l21Jobs.h0T v3 a0) (spec_l21Jobs.h0H v3 a0)) := by
          intro kq
          induction kq with
          | zero => intro v3 h; cases h
          | succ kq ih =>
            intro v3 h
            rw [spec_l21Jobs.l0] at h
            by_cases c8 : v3 < (a0.f6.length : Int)
            · replace h := ip c8 h
              obtain ⟨t4, g9, h⟩ := bindN h
              let C9 := mkCon (spec_l21Job.ok kq a0 v3 t4 g9) spec_l21Job.go
              by_cases c10 : t4 = true
              · replace h := ip c10 h
                exact hd func148 [.b true, .call C9, .b false, .fin] (oT c8 (oc C9 (o1 (bnf c10) on))) (ih (w64 (v3 + 1)) h)
              · replace h := iq c10 h
                cases h
                exact rt func148 [.b true, .call C9, .b true, .fin] (oT c8 (oc C9 (oN c10 on)))
            · replace h := iq c8 h
              cases h
              exact rt func148 [.b false, .fin, .fin] (oF c8 on)
        exact hd func148 [.dec 8 false, .call C2, .dec 15 false, .b false, .fin] (oF c1 (oc C2 (o1 (bnf c3) (o1 (bnf (decide_eq_true c4)) on)))) (H0 k 0 h)
      · replace h := iq c4 h
        cases h
        exact rt func148 [.dec 8 false, .call C2, .dec 15 false, .b true, .fin] (oF c1 (oc C2 (o1 (bnf c3) (o1 (bnt (decide_eq_false c4)) on))))
    · replace h := iq c3 h
      cases h
      exact rt func148 [.dec 8 false, .call C2, .dec 15 true, .b true, .fin] (oF c1 (oc C2 (oN c3 (oR on))))

/-! ### spec_JobsOk: function 80 -/
def spec_JobsOk.f (k : Nat) (a0 : S48) : Option Bool := if a0.f4 = true then ((spec_l21Jobs.f k a0).bind fun t1 => if t1 = true then ((spec_LayerOf.f k a0).bind fun t2 => some (decide (t2 < a0.f5.f0))) else (some false)) else (if a0.f5.f0 = 0 then (if a0.f5.f1 = 0 then (if (a0.f5.f2.length : Int) = 0 then (some (decide ((a0.f6.length : Int) = 0))) else (some false)) else (some false)) else (some false))
theorem spec_JobsOk.go : Callable prog 80 := ⟨_, func80, by kernel_rfl, rfl⟩
theorem spec_JobsOk.ok (k : Nat) (a0 : S48) (r : Bool) (h : spec_JobsOk.f k a0 = some r) : VCalls prog 80 [.agg (e48 a0)] [.c (.p (.sc (.bool r)))] := by
  unfold spec_JobsOk.f at h
  refine VCalls.of (fn := f80) (N := 39) func80 rfl rfl (fun w0 => ?_)
  by_cases c1 : a0.f4 = true
  · replace h := ip c1 h
    obtain ⟨t1, g2, h⟩ := bindN h
    let C2 := mkCon (spec_l21Jobs.ok k a0 t1 g2) spec_l21Jobs.go
    by_cases c3 : t1 = true
    · replace h := ip c3 h
      obtain ⟨t2, g4, h⟩ := bindN h
      let C4 := mkCon (spec_LayerOf.ok k a0 t2 g4) spec_LayerOf.go
      cases h
      exact rt func80 [.b false, .call C2, .dec 31 true, .call C4, .fin] (o1 (bnf c1) (oc C2 (o1 c3 (oc C4 on))))
    · replace h := iq c3 h
      cases h
      exact rt func80 [.b false, .call C2, .dec 31 false, .fin] (o1 (bnf c1) (oc C2 (o1 (eqf c3) on)))
  · replace h := iq c1 h
    by_cases c5 : a0.f5.f0 = 0
    · replace h := ip c5 h
      by_cases c6 : a0.f5.f1 = 0
      · replace h := ip c6 h
        by_cases c7 : (a0.f5.f2.length : Int) = 0
        · replace h := ip c7 h
          cases h
          exact rt func80 [.b true, .dec 10 true, .dec 16 true, .dec 23 true, .fin] (oN c1 (oT c5 (oT c6 (oT c7 on))))
        · replace h := iq c7 h
          cases h
          exact rt func80 [.b true, .dec 10 true, .dec 16 true, .dec 23 false, .fin] (oN c1 (oT c5 (oT c6 (oF c7 on))))
      · replace h := iq c6 h
        cases h
        exact rt func80 [.b true, .dec 10 true, .dec 16 false, .fin] (oN c1 (oT c5 (oF c6 on)))
    · replace h := iq c5 h
      cases h
      exact rt func80 [.b true, .dec 10 false, .fin] (oN c1 (oF c5 on))

/-! ### spec_l10Cells: function 81 -/
def spec_l10Cells.h0T (a1 : List Int) (v2 : Int) (a0 : S38) : List (Nat × AV) := [(1, .t (.c (.p false (R 1 (eI .i64) 0 a1)))), (2, .ptr 128 0), (5, .t (.c (.p true (iI v2))))]
def spec_l10Cells.h0H (a1 : List Int) (v2 : Int) (a0 : S38) : List (Nat × Content) := [(128, .box 38 [.p false (iI a0.f0), .p false (iI a0.f1), .p false (.sc (.string a0.f2))])]
def spec_l10Cells.l0 : Nat → List Int → S38 → Int → Option Bool
  | 0, _, _, _ => none
  | kq + 1, a1, a0, v2 => if v2 < (a1.length : Int) then (if 0 ≤ v2 then ((spec_FreeAt.f kq a0 (rdD 0 a1 v2)).bind fun t3 => if t3 = true then (if 0 < v2 then (if 0 ≤ (w64 (v2 - 1)) then (if (w64 (v2 - 1)) < (a1.length : Int) then (if (rdD 0 a1 v2) ≤ (rdD 0 a1 (w64 (v2 - 1))) then (some false) else (spec_l10Cells.l0 kq a1 a0 (w64 (v2 + 1)))) else none) else none) else (spec_l10Cells.l0 kq a1 a0 (w64 (v2 + 1)))) else (some false)) else none) else (some true)
def spec_l10Cells.f (k : Nat) (a0 : S38) (a1 : List Int) : Option Bool := spec_l10Cells.l0 k a1 a0 0
theorem spec_l10Cells.go : Callable prog 81 := ⟨_, func81, by kernel_rfl, rfl⟩
theorem spec_l10Cells.ok (k : Nat) (a0 : S38) (a1 : List Int) (r : Bool) (h : spec_l10Cells.f k a0 a1 = some r) : VCalls prog 81 [.agg (e38 a0), .c (R 1 (eI .i64) 0 a1)] [.c (.p (.sc (.bool r)))] := by
  unfold spec_l10Cells.f at h
  refine VCalls.of (fn := f81) (N := 35) func81 rfl rfl (fun w0 => ?_)
  have H0 : ∀ (kq : Nat) (v2 : Int), spec_l10Cells.l0 kq a1 a0 v2 = some r → AG prog 81 35 [.c (.p (.sc (.bool r)))] w0 (headStk (codeOf f81) 0) (mkFS (spec_l10Cells.h0T a1 v2 a0) (spec_l10Cells.h0H a1 v2 a0)) := by
    intro kq
    induction kq with
    | zero => intro v2 h; cases h
    | succ kq ih =>
      intro v2 h
      rw [spec_l10Cells.l0] at h
      by_cases c8 : v2 < (a1.length : Int)
      · replace h := ip c8 h
        obtain ⟨c9, h⟩ := ifN h
        obtain ⟨t3, g10, h⟩ := bindN h
        let C10 := mkCon (spec_FreeAt.ok kq a0 (rdD 0 a1 v2) t3 g10) spec_FreeAt.go
        by_cases c11 : t3 = true
        · replace h := ip c11 h
          by_cases c12 : 0 < v2
          · replace h := ip c12 h
            obtain ⟨c13, h⟩ := ifN h
            obtain ⟨c14, h⟩ := ifN h
            by_cases c15 : (rdD 0 a1 v2) ≤ (rdD 0 a1 (w64 (v2 - 1)))
            · replace h := ip c15 h
              cases h
              exact rt func81 [.b true, .call C10, .dec 19 false, .dec 22 true, .b true, .fin] (oT c8 (o1 c9 (o1 c8 (oc C10 (o1 (bnf c11) (oT c12 (o1 c13 (o1 c14 (o1 c9 (o1 c8 (oT c15 on)))))))))))
            · replace h := iq c15 h
              exact hd func81 [.b true, .call C10, .dec 19 false, .dec 22 true, .b false, .fin] (oT c8 (o1 c9 (o1 c8 (oc C10 (o1 (bnf c11) (oT c12 (o1 c13 (o1 c14 (o1 c9 (o1 c8 (oF c15 on))))))))))) (ih (w64 (v2 + 1)) h)
          · replace h := iq c12 h
            exact hd func81 [.b true, .call C10, .dec 19 false, .dec 22 false, .b false, .fin] (oT c8 (o1 c9 (o1 c8 (oc C10 (o1 (bnf c11) (oF c12 (o1 (rfl : false = false) on))))))) (ih (w64 (v2 + 1)) h)
        · replace h := iq c11 h
          cases h
          exact rt func81 [.b true, .call C10, .dec 19 true, .b true, .fin] (oT c8 (o1 c9 (o1 c8 (oc C10 (oN c11 (oR on))))))
      · replace h := iq c8 h
        cases h
        exact rt func81 [.b false, .fin, .fin] (oF c8 on)
  exact hd func81 [.fin] on (H0 k 0 h)
end Go.Proofs.YtoaknaceaghclaaGreat.V
