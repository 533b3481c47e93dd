/- What each Go function computes, and that the machine does so: printed by a program of this session (avgen.py). -/
import Derived.Test.YtfhjipfkaemapaaV1
namespace Go.Proofs.Ytfhjipfkaemapaa.V
open Go Go.Av Go.Proofs Go.Proofs.Try
set_option linter.unusedVariables false
set_option maxRecDepth 100000
/-! ### laws_heldRobotS: function 41 -/
def laws_heldRobotS.h0T (a0 : List S90) (v2 : Int) (v3 : Int) : List (Nat × AV) := [(0, .t (.c (.p false (R 4 e90 z90 a0)))), (1, .t (.c (.p false (iI v2)))), (5, .t (.c (.p true (iI v3))))]
def laws_heldRobotS.h0H (a0 : List S90) (v2 : Int) (v3 : Int) : List (Nat × Content) := []
def laws_heldRobotS.l0 : Nat → List S90 → Int → Int → Option Int
  | 0, _, _, _ => none
  | kq + 1, a0, v2, v3 => if v3 < (a0.length : Int) then (if 0 ≤ v3 then (if (rdD z90 a0 v3).f0 = v2 then (if (rdD z90 a0 v3).f1 = (w64 (v2 + 1)) then (if (rdD z90 a0 v3).f2 = (w64 ((w64 (v2 + 1)) + 1)) then (if ((rdD z90 a0 v3).f3 == (decide (((w64 ((w64 ((w64 (v2 + 1)) + 1)) + 1)).tmod 3) = 0))) = true then (laws_heldRobotS.l0 kq a0 (w64 ((w64 ((w64 ((w64 (v2 + 1)) + 1)) + 1)) + 1)) (w64 (v3 + 1))) else (some (-1))) else (some (-1))) else (some (-1))) else (some (-1))) else none) else (some v2)
def laws_heldRobotS.f (k : Nat) (a0 : List S90) (a1 : Int) : Option Int := laws_heldRobotS.l0 k a0 a1 0
theorem laws_heldRobotS.go : Callable prog 41 := ⟨_, func41, by kernel_rfl, rfl⟩
theorem laws_heldRobotS.ok (k : Nat) (a0 : List S90) (a1 : Int) (r : Int) (h : laws_heldRobotS.f k a0 a1 = some r) : VCalls prog 41 [.c (R 4 e90 z90 a0), .c (iI a1)] [.c (.p (iI r))] := by
  unfold laws_heldRobotS.f at h
  refine VCalls.of (fn := f41) (N := 51) func41 rfl rfl (fun w0 => ?_)
  have H0 : ∀ (kq : Nat) (v2 : Int) (v3 : Int), laws_heldRobotS.l0 kq a0 v2 v3 = some r → AG prog 41 51 [.c (.p (iI r))] w0 (headStk (codeOf f41) 0) (mkFS (laws_heldRobotS.h0T a0 v2 v3) (laws_heldRobotS.h0H a0 v2 v3)) := by
    intro kq
    induction kq with
    | zero => intro v2 v3 h; cases h
    | succ kq ih =>
      intro v2 v3 h
      rw [laws_heldRobotS.l0] at h
      by_cases c11 : v3 < (a0.length : Int)
      · replace h := ip c11 h
        obtain ⟨c12, h⟩ := ifN h
        by_cases c13 : (rdD z90 a0 v3).f0 = v2
        · replace h := ip c13 h
          by_cases c14 : (rdD z90 a0 v3).f1 = (w64 (v2 + 1))
          · replace h := ip c14 h
            by_cases c15 : (rdD z90 a0 v3).f2 = (w64 ((w64 (v2 + 1)) + 1))
            · replace h := ip c15 h
              by_cases c16 : ((rdD z90 a0 v3).f3 == (decide (((w64 ((w64 ((w64 (v2 + 1)) + 1)) + 1)).tmod 3) = 0))) = true
              · replace h := ip c16 h
                exact hd func41 [.b true, .b false, .b false, .b false, .b false, .fin] (oT c11 (o1 c12 (o1 c11 (o1 (bnf (decide_eq_true c13)) (o1 c12 (o1 c11 (o1 (bnf (decide_eq_true c14)) (o1 c12 (o1 c11 (o1 (bnf (decide_eq_true c15)) (o1 c12 (o1 c11 (o1 (by decide : (3 : Int) ≠ 0) (o1 (bnf c16) on)))))))))))))) (ih (w64 ((w64 ((w64 ((w64 (v2 + 1)) + 1)) + 1)) + 1)) (w64 (v3 + 1)) h)
              · replace h := iq c16 h
                cases h
                exact rt func41 [.b true, .b false, .b false, .b false, .b true, .fin] (oT c11 (o1 c12 (o1 c11 (o1 (bnf (decide_eq_true c13)) (o1 c12 (o1 c11 (o1 (bnf (decide_eq_true c14)) (o1 c12 (o1 c11 (o1 (bnf (decide_eq_true c15)) (o1 c12 (o1 c11 (o1 (by decide : (3 : Int) ≠ 0) (oN c16 on))))))))))))))
            · replace h := iq c15 h
              cases h
              exact rt func41 [.b true, .b false, .b false, .b true, .fin] (oT c11 (o1 c12 (o1 c11 (o1 (bnf (decide_eq_true c13)) (o1 c12 (o1 c11 (o1 (bnf (decide_eq_true c14)) (o1 c12 (o1 c11 (o1 (bnt (decide_eq_false c15)) on))))))))))
          · replace h := iq c14 h
            cases h
            exact rt func41 [.b true, .b false, .b true, .fin] (oT c11 (o1 c12 (o1 c11 (o1 (bnf (decide_eq_true c13)) (o1 c12 (o1 c11 (o1 (bnt (decide_eq_false c14)) on)))))))
        · replace h := iq c13 h
          cases h
          exact rt func41 [.b true, .b true, .fin] (oT c11 (o1 c12 (o1 c11 (o1 (bnt (decide_eq_false c13)) on))))
      · replace h := iq c11 h
        cases h
        exact rt func41 [.b false, .fin, .fin] (oF c11 on)
  exact hd func41 [.fin] on (H0 k a1 0 h)

/-! ### laws_heldIntS: function 45 -/
def laws_heldIntS.h0T (a0 : List Int) (v2 : Int) (v3 : Int) : List (Nat × AV) := [(0, .t (.c (.p false (R 1 (eI .i64) 0 a0)))), (1, .t (.c (.p false (iI v2)))), (5, .t (.c (.p true (iI v3))))]
def laws_heldIntS.h0H (a0 : List Int) (v2 : Int) (v3 : Int) : List (Nat × Content) := []
def laws_heldIntS.l0 : Nat → List Int → Int → Int → Option Int
  | 0, _, _, _ => none
  | kq + 1, a0, v2, v3 => if v3 < (a0.length : Int) then (if 0 ≤ v3 then (if (rdD 0 a0 v3) = v2 then (laws_heldIntS.l0 kq a0 (w64 (v2 + 1)) (w64 (v3 + 1))) else (some (-1))) else none) else (some v2)
def laws_heldIntS.f (k : Nat) (a0 : List Int) (a1 : Int) : Option Int := laws_heldIntS.l0 k a0 a1 0
theorem laws_heldIntS.go : Callable prog 45 := ⟨_, func45, by kernel_rfl, rfl⟩
theorem laws_heldIntS.ok (k : Nat) (a0 : List Int) (a1 : Int) (r : Int) (h : laws_heldIntS.f k a0 a1 = some r) : VCalls prog 45 [.c (R 1 (eI .i64) 0 a0), .c (iI a1)] [.c (.p (iI r))] := by
  unfold laws_heldIntS.f at h
  refine VCalls.of (fn := f45) (N := 21) func45 rfl rfl (fun w0 => ?_)
  have H0 : ∀ (kq : Nat) (v2 : Int) (v3 : Int), laws_heldIntS.l0 kq a0 v2 v3 = some r → AG prog 45 21 [.c (.p (iI r))] w0 (headStk (codeOf f45) 0) (mkFS (laws_heldIntS.h0T a0 v2 v3) (laws_heldIntS.h0H a0 v2 v3)) := by
    intro kq
    induction kq with
    | zero => intro v2 v3 h; cases h
    | succ kq ih =>
      intro v2 v3 h
      rw [laws_heldIntS.l0] at h
      by_cases c5 : v3 < (a0.length : Int)
      · replace h := ip c5 h
        obtain ⟨c6, h⟩ := ifN h
        by_cases c7 : (rdD 0 a0 v3) = v2
        · replace h := ip c7 h
          exact hd func45 [.b true, .b false, .fin] (oT c5 (o1 c6 (o1 c5 (o1 (bnf (decide_eq_true c7)) on)))) (ih (w64 (v2 + 1)) (w64 (v3 + 1)) h)
        · replace h := iq c7 h
          cases h
          exact rt func45 [.b true, .b true, .fin] (oT c5 (o1 c6 (o1 c5 (o1 (bnt (decide_eq_false c7)) on))))
      · replace h := iq c5 h
        cases h
        exact rt func45 [.b false, .fin, .fin] (oF c5 on)
  exact hd func45 [.fin] on (H0 k a1 0 h)

/-! ### laws_heldWindow: function 42 -/
def laws_heldWindow.f (k : Nat) (a0 : S41) (a1 : Int) : Option Int := (laws_heldIntS.f k a0.f2 a1).bind fun t1 => if t1 < 0 then (some (-1)) else (some t1)
theorem laws_heldWindow.go : Callable prog 42 := ⟨_, func42, by kernel_rfl, rfl⟩
theorem laws_heldWindow.ok (k : Nat) (a0 : S41) (a1 : Int) (r : Int) (h : laws_heldWindow.f k a0 a1 = some r) : VCalls prog 42 [.agg (e41 a0), .c (iI a1)] [.c (.p (iI r))] := by
  unfold laws_heldWindow.f at h
  refine VCalls.of (fn := f42) (N := 12) func42 rfl rfl (fun w0 => ?_)
  obtain ⟨t1, g1, h⟩ := bindN h
  let C1 := mkCon (laws_heldIntS.ok k a0.f2 a1 t1 g1) laws_heldIntS.go
  by_cases c2 : t1 < 0
  · replace h := ip c2 h
    cases h
    exact rt func42 [.call C1, .b true, .fin] (oc C1 (oT c2 on))
  · replace h := iq c2 h
    cases h
    exact rt func42 [.call C1, .b false, .fin] (oc C1 (oF c2 on))

/-! ### laws_heldWayS: function 72 -/
def laws_heldWayS.h0T (a0 : List S64) (v4 : Int) (v5 : Int) : List (Nat × AV) := [(0, .t (.c (.p false (R 1 e64 z64 a0)))), (1, .t (.c (.p false (iI v4)))), (5, .t (.c (.p true (iI v5))))]
def laws_heldWayS.h0H (a0 : List S64) (v4 : Int) (v5 : Int) : List (Nat × Content) := []
def laws_heldWayS.l0 : Nat → List S64 → Int → Int → Option Int
  | 0, _, _, _ => none
  | kq + 1, a0, v4, v5 => if v5 < (a0.length : Int) then (if 0 ≤ v5 then ((laws_heldIntS.f kq ((rdD z64 a0 v5).f0) v4).bind fun t6 => if t6 < 0 then (some (-1)) else (laws_heldWayS.l0 kq a0 t6 (w64 (v5 + 1)))) else none) else (some v4)
def laws_heldWayS.f (k : Nat) (a0 : List S64) (a1 : Int) : Option Int := laws_heldWayS.l0 k a0 a1 0
theorem laws_heldWayS.go : Callable prog 72 := ⟨_, func72, by kernel_rfl, rfl⟩
theorem laws_heldWayS.ok (k : Nat) (a0 : List S64) (a1 : Int) (r : Int) (h : laws_heldWayS.f k a0 a1 = some r) : VCalls prog 72 [.c (R 1 e64 z64 a0), .c (iI a1)] [.c (.p (iI r))] := by
  unfold laws_heldWayS.f at h
  refine VCalls.of (fn := f72) (N := 22) func72 rfl rfl (fun w0 => ?_)
  have H0 : ∀ (kq : Nat) (v4 : Int) (v5 : Int), laws_heldWayS.l0 kq a0 v4 v5 = some r → AG prog 72 22 [.c (.p (iI r))] w0 (headStk (codeOf f72) 0) (mkFS (laws_heldWayS.h0T a0 v4 v5) (laws_heldWayS.h0H a0 v4 v5)) := by
    intro kq
    induction kq with
    | zero => intro v4 v5 h; cases h
    | succ kq ih =>
      intro v4 v5 h
      rw [laws_heldWayS.l0] at h
      by_cases c7 : v5 < (a0.length : Int)
      · replace h := ip c7 h
        obtain ⟨c8, h⟩ := ifN h
        obtain ⟨t6, g9, h⟩ := bindN h
        let C9 := mkCon (laws_heldIntS.ok kq ((rdD z64 a0 v5).f0) v4 t6 g9) laws_heldIntS.go
        by_cases c10 : t6 < 0
        · replace h := ip c10 h
          cases h
          exact rt func72 [.b true, .call C9, .b true, .fin] (oT c7 (o1 c8 (o1 c7 (oc C9 (oT c10 on)))))
        · replace h := iq c10 h
          exact hd func72 [.b true, .call C9, .b false, .fin] (oT c7 (o1 c8 (o1 c7 (oc C9 (oF c10 on))))) (ih t6 (w64 (v5 + 1)) h)
      · replace h := iq c7 h
        cases h
        exact rt func72 [.b false, .fin, .fin] (oF c7 on)
  exact hd func72 [.fin] on (H0 k a1 0 h)

/-! ### laws_heldPlan: function 43 -/
def laws_heldPlan.f (k : Nat) (a0 : S44) (a1 : Int) : Option Int := (laws_heldWayS.f k a0.f2 a1).bind fun t1 => if t1 < 0 then (some (-1)) else (some t1)
theorem laws_heldPlan.go : Callable prog 43 := ⟨_, func43, by kernel_rfl, rfl⟩
theorem laws_heldPlan.ok (k : Nat) (a0 : S44) (a1 : Int) (r : Int) (h : laws_heldPlan.f k a0 a1 = some r) : VCalls prog 43 [.agg (e44 a0), .c (iI a1)] [.c (.p (iI r))] := by
  unfold laws_heldPlan.f at h
  refine VCalls.of (fn := f43) (N := 12) func43 rfl rfl (fun w0 => ?_)
  obtain ⟨t1, g1, h⟩ := bindN h
  let C1 := mkCon (laws_heldWayS.ok k a0.f2 a1 t1 g1) laws_heldWayS.go
  by_cases c2 : t1 < 0
  · replace h := ip c2 h
    cases h
    exact rt func43 [.call C1, .b true, .fin] (oc C1 (oT c2 on))
  · replace h := iq c2 h
    cases h
    exact rt func43 [.call C1, .b false, .fin] (oc C1 (oF c2 on))

/-! ### laws_heldJobS: function 44 -/
def laws_heldJobS.h0T (a0 : List S62) (v2 : Int) (v3 : Int) : List (Nat × AV) := [(0, .t (.c (.p false (R 3 e62 z62 a0)))), (1, .t (.c (.p false (iI v2)))), (5, .t (.c (.p true (iI v3))))]
def laws_heldJobS.h0H (a0 : List S62) (v2 : Int) (v3 : Int) : List (Nat × Content) := []
def laws_heldJobS.l0 : Nat → List S62 → Int → Int → Option Int
  | 0, _, _, _ => none
  | kq + 1, a0, v2, v3 => if v3 < (a0.length : Int) then (if 0 ≤ v3 then (if (rdD z62 a0 v3).f0 = v2 then (if (rdD z62 a0 v3).f1 = (w64 (v2 + 1)) then (if ((rdD z62 a0 v3).f2 == (decide (((w64 ((w64 (v2 + 1)) + 1)).tmod 3) = 0))) = true then (laws_heldJobS.l0 kq a0 (w64 ((w64 ((w64 (v2 + 1)) + 1)) + 1)) (w64 (v3 + 1))) else (some (-1))) else (some (-1))) else (some (-1))) else none) else (some v2)
def laws_heldJobS.f (k : Nat) (a0 : List S62) (a1 : Int) : Option Int := laws_heldJobS.l0 k a0 a1 0
theorem laws_heldJobS.go : Callable prog 44 := ⟨_, func44, by kernel_rfl, rfl⟩
theorem laws_heldJobS.ok (k : Nat) (a0 : List S62) (a1 : Int) (r : Int) (h : laws_heldJobS.f k a0 a1 = some r) : VCalls prog 44 [.c (R 3 e62 z62 a0), .c (iI a1)] [.c (.p (iI r))] := by
  unfold laws_heldJobS.f at h
  refine VCalls.of (fn := f44) (N := 42) func44 rfl rfl (fun w0 => ?_)
  have H0 : ∀ (kq : Nat) (v2 : Int) (v3 : Int), laws_heldJobS.l0 kq a0 v2 v3 = some r → AG prog 44 42 [.c (.p (iI r))] w0 (headStk (codeOf f44) 0) (mkFS (laws_heldJobS.h0T a0 v2 v3) (laws_heldJobS.h0H a0 v2 v3)) := by
    intro kq
    induction kq with
    | zero => intro v2 v3 h; cases h
    | succ kq ih =>
      intro v2 v3 h
      rw [laws_heldJobS.l0] at h
      by_cases c9 : v3 < (a0.length : Int)
      · replace h := ip c9 h
        obtain ⟨c10, h⟩ := ifN h
        by_cases c11 : (rdD z62 a0 v3).f0 = v2
        · replace h := ip c11 h
          by_cases c12 : (rdD z62 a0 v3).f1 = (w64 (v2 + 1))
          · replace h := ip c12 h
            by_cases c13 : ((rdD z62 a0 v3).f2 == (decide (((w64 ((w64 (v2 + 1)) + 1)).tmod 3) = 0))) = true
            · replace h := ip c13 h
              exact hd func44 [.b true, .b false, .b false, .b false, .fin] (oT c9 (o1 c10 (o1 c9 (o1 (bnf (decide_eq_true c11)) (o1 c10 (o1 c9 (o1 (bnf (decide_eq_true c12)) (o1 c10 (o1 c9 (o1 (by decide : (3 : Int) ≠ 0) (o1 (bnf c13) on))))))))))) (ih (w64 ((w64 ((w64 (v2 + 1)) + 1)) + 1)) (w64 (v3 + 1)) h)
            · replace h := iq c13 h
              cases h
              exact rt func44 [.b true, .b false, .b false, .b true, .fin] (oT c9 (o1 c10 (o1 c9 (o1 (bnf (decide_eq_true c11)) (o1 c10 (o1 c9 (o1 (bnf (decide_eq_true c12)) (o1 c10 (o1 c9 (o1 (by decide : (3 : Int) ≠ 0) (oN c13 on)))))))))))
          · replace h := iq c12 h
            cases h
            exact rt func44 [.b true, .b false, .b true, .fin] (oT c9 (o1 c10 (o1 c9 (o1 (bnf (decide_eq_true c11)) (o1 c10 (o1 c9 (o1 (bnt (decide_eq_false c12)) on)))))))
        · replace h := iq c11 h
          cases h
          exact rt func44 [.b true, .b true, .fin] (oT c9 (o1 c10 (o1 c9 (o1 (bnt (decide_eq_false c11)) on))))
      · replace h := iq c9 h
        cases h
        exact rt func44 [.b false, .fin, .fin] (oF c9 on)
  exact hd func44 [.fin] on (H0 k a1 0 h)

/-! ### laws_heldYard: function 10 -/
def laws_heldYard.f (k : Nat) (a0 : S47) (a1 : Int) : Option Int := (laws_heldRobotS.f k a0.f1 a1).bind fun t1 => if t1 < 0 then (some (-1)) else ((laws_heldWindow.f k a0.f2 t1).bind fun t2 => if t2 < 0 then (some (-1)) else ((laws_heldPlan.f k a0.f5 t2).bind fun t3 => if t3 < 0 then (some (-1)) else ((laws_heldJobS.f k a0.f6 t3).bind fun t4 => if t4 < 0 then (some (-1)) else ((laws_heldIntS.f k a0.f7 t4).bind fun t5 => if t5 < 0 then (some (-1)) else (some t5)))))
theorem laws_heldYard.go : Callable prog 10 := ⟨_, func10, by kernel_rfl, rfl⟩
theorem laws_heldYard.ok (k : Nat) (a0 : S47) (a1 : Int) (r : Int) (h : laws_heldYard.f k a0 a1 = some r) : VCalls prog 10 [.agg (e47 a0), .c (iI a1)] [.c (.p (iI r))] := by
  unfold laws_heldYard.f at h
  refine VCalls.of (fn := f10) (N := 36) func10 rfl rfl (fun w0 => ?_)
  obtain ⟨t1, g1, h⟩ := bindN h
  let C1 := mkCon (laws_heldRobotS.ok k a0.f1 a1 t1 g1) laws_heldRobotS.go
  by_cases c2 : t1 < 0
  · replace h := ip c2 h
    cases h
    exact rt func10 [.call C1, .b true, .fin] (oc C1 (oT c2 on))
  · replace h := iq c2 h
    obtain ⟨t2, g3, h⟩ := bindN h
    let C3 := mkCon (laws_heldWindow.ok k a0.f2 t1 t2 g3) laws_heldWindow.go
    by_cases c4 : t2 < 0
    · replace h := ip c4 h
      cases h
      exact rt func10 [.call C1, .b false, .call C3, .b true, .fin] (oc C1 (oF c2 (oc C3 (oT c4 on))))
    · replace h := iq c4 h
      obtain ⟨t3, g5, h⟩ := bindN h
      let C5 := mkCon (laws_heldPlan.ok k a0.f5 t2 t3 g5) laws_heldPlan.go
      by_cases c6 : t3 < 0
      · replace h := ip c6 h
        cases h
        exact rt func10 [.call C1, .b false, .call C3, .b false, .call C5, .b true, .fin] (oc C1 (oF c2 (oc C3 (oF c4 (oc C5 (oT c6 on))))))
      · replace h := iq c6 h
        obtain ⟨t4, g7, h⟩ := bindN h
        let C7 := mkCon (laws_heldJobS.ok k a0.f6 t3 t4 g7) laws_heldJobS.go
        by_cases c8 : t4 < 0
        · replace h := ip c8 h
          cases h
          exact rt func10 [.call C1, .b false, .call C3, .b false, .call C5, .b false, .call C7, .b true, .fin] (oc C1 (oF c2 (oc C3 (oF c4 (oc C5 (oF c6 (oc C7 (oT c8 on))))))))
        · replace h := iq c8 h
          obtain ⟨t5, g9, h⟩ := bindN h
          let C9 := mkCon (laws_heldIntS.ok k a0.f7 t4 t5 g9) laws_heldIntS.go
          by_cases c10 : t5 < 0
          · replace h := ip c10 h
            cases h
            exact rt func10 [.call C1, .b false, .call C3, .b false, .call C5, .b false, .call C7, .b false, .call C9, .b true, .fin] (oc C1 (oF c2 (oc C3 (oF c4 (oc C5 (oF c6 (oc C7 (oF c8 (oc C9 (oT c10 on))))))))))
          · replace h := iq c10 h
            cases h
            exact rt func10 [.call C1, .b false, .call C3, .b false, .call C5, .b false, .call C7, .b false, .call C9, .b false, .fin] (oc C1 (oF c2 (oc C3 (oF c4 (oc C5 (oF c6 (oc C7 (oF c8 (oc C9 (oF c10 on))))))))))

/-! ### laws_FnExactOnward: function 3 -/
def laws_FnExactOnward.f (k : Nat) (a0 : S35) : Option Bool := (laws_szYard.f k a0 1048576).bind fun t1 => if t1 < 0 then (some true) else ((laws_toYard.f k a0).bind fun t2 => (spec_Onward.f k t2).bind fun t3 => (laws_toYard.f k a0).bind fun t4 => (impl_Onward.f k t4).bind fun t5 => (laws_eqYard.f k t5 t3).bind fun t6 => if t6 = true then ((laws_toYard.f k a0).bind fun t7 => (laws_eqYard.f k t4 t7).bind fun t8 => if t8 = true then ((laws_markYard.f k t4 1).bind fun t9 => if t9.1 < 0 then (some false) else ((laws_eqYard.f k t5 t3).bind fun t10 => if t10 = true then ((laws_markYard.f k t5 1).bind fun t11 => (laws_heldYard.f k (⟨t5.f0, t11.2.1, (⟨t5.f2.f0, t5.f2.f1, t11.2.2.1⟩ : S41), t5.f3, t5.f4, (⟨t5.f5.f0, t5.f5.f1, t11.2.2.2.1⟩ : S44), t11.2.2.2.2.1, t11.2.2.2.2.2⟩ : S47) 1).bind fun t12 => if t12 < 0 then (some false) else (if t12 = t11.1 then ((laws_toYard.f k a0).bind fun t13 => (impl_Onward.f k t13).bind fun t14 => (laws_eqYard.f k t14 t3).bind fun t15 => if t15 = true then ((laws_heldYard.f k (⟨t5.f0, t11.2.1, (⟨t5.f2.f0, t5.f2.f1, t11.2.2.1⟩ : S41), t5.f3, t5.f4, (⟨t5.f5.f0, t5.f5.f1, t11.2.2.2.1⟩ : S44), t11.2.2.2.2.1, t11.2.2.2.2.2⟩ : S47) 1).bind fun t16 => if t16 < 0 then (some false) else (if t16 = t11.1 then (some true) else (some false))) else (some false)) else (some false))) else (some false))) else (some false)) else (some false))
theorem laws_FnExactOnward.go : Callable prog 3 := ⟨_, func3, by kernel_rfl, rfl⟩
theorem laws_FnExactOnward.ok (k : Nat) (a0 : S35) (r : Bool) (h : laws_FnExactOnward.f k a0 = some r) : VCalls prog 3 [.agg (e35 a0)] [.c (.p (.sc (.bool r)))] := by
  unfold laws_FnExactOnward.f at h
  refine VCalls.of (fn := f3) (N := 69) func3 rfl rfl (fun w0 => ?_)
  obtain ⟨t1, g1, h⟩ := bindN h
  let C1 := mkCon (laws_szYard.ok k a0 1048576 t1 g1) laws_szYard.go
  by_cases c2 : t1 < 0
  · replace h := ip c2 h
    cases h
    exact rt func3 [.call C1, .b true, .fin] (oc C1 (oT c2 on))
  · replace h := iq c2 h
    obtain ⟨t2, g3, h⟩ := bindN h
    let C3 := mkCon (laws_toYard.ok k a0 t2 g3) laws_toYard.go
    obtain ⟨t3, g4, h⟩ := bindN h
    let C4 := mkCon (spec_Onward.ok k t2 t3 g4) spec_Onward.go
    obtain ⟨t4, g5, h⟩ := bindN h
    let C5 := mkCon (laws_toYard.ok k a0 t4 g5) laws_toYard.go
    obtain ⟨t5, g6, h⟩ := bindN h
    let C6 := mkCon (impl_Onward.ok k t4 t5 g6) impl_Onward.go
    obtain ⟨t6, g7, h⟩ := bindN h
    let C7 := mkCon (laws_eqYard.ok k t5 t3 t6 g7) laws_eqYard.go
    by_cases c8 : t6 = true
    · replace h := ip c8 h
      obtain ⟨t7, g9, h⟩ := bindN h
      let C9 := mkCon (laws_toYard.ok k a0 t7 g9) laws_toYard.go
      obtain ⟨t8, g10, h⟩ := bindN h
      let C10 := mkCon (laws_eqYard.ok k t4 t7 t8 g10) laws_eqYard.go
      by_cases c11 : t8 = true
      · replace h := ip c11 h
        obtain ⟨t9, g12, h⟩ := bindN h
        let C12 := laws_markYard.con k t4 1 t9 g12
        by_cases c13 : t9.1 < 0
        · replace h := ip c13 h
          cases h
          exact rt func3 [.call C1, .b false, .call C3, .call C4, .call C5, .call C6, .call C7, .b false, .call C9, .call C10, .b false, .callW C12 [(7, 1287), (10, 1290), (15, 1295), (16, 1296), (17, 1297)], .dec 37 true, .b true, .fin] (oc C1 (oF c2 (oc C3 (oc C4 (oc C5 (oc C6 (oc C7 (o1 (bnf c8) (oc C9 (oc C10 (o1 (bnf c11) (oa (scw_ C12) (oT c13 (oR on))))))))))))))
        · replace h := iq c13 h
          obtain ⟨t10, g14, h⟩ := bindN h
          let C14 := mkCon (laws_eqYard.ok k t5 t3 t10 g14) laws_eqYard.go
          by_cases c15 : t10 = true
          · replace h := ip c15 h
            obtain ⟨t11, g16, h⟩ := bindN h
            let C16 := laws_markYard.con k t5 1 t11 g16
            obtain ⟨t12, g17, h⟩ := bindN h
            let C17 := mkCon (laws_heldYard.ok k (⟨t5.f0, t11.2.1, (⟨t5.f2.f0, t5.f2.f1, t11.2.2.1⟩ : S41), t5.f3, t5.f4, (⟨t5.f5.f0, t5.f5.f1, t11.2.2.2.1⟩ : S44), t11.2.2.2.2.1, t11.2.2.2.2.2⟩ : S47) 1 t12 g17) laws_heldYard.go
            by_cases c18 : t12 < 0
            · replace h := ip c18 h
              cases h
              exact rt func3 [.call C1, .b false, .call C3, .call C4, .call C5, .call C6, .call C7, .b false, .call C9, .call C10, .b false, .callW C12 [(7, 1287), (10, 1290), (15, 1295), (16, 1296), (17, 1297)], .dec 37 false, .call C14, .b false, .callW C16 [(7, 1415), (10, 1418), (15, 1423), (16, 1424), (17, 1425)], .call C17, .b true, .fin] (oc C1 (oF c2 (oc C3 (oc C4 (oc C5 (oc C6 (oc C7 (o1 (bnf c8) (oc C9 (oc C10 (o1 (bnf c11) (oa (scw_ C12) (oF c13 (oc C14 (o1 (bnf c15) (oa (scw_ C16) (oc C17 (oT c18 on))))))))))))))))))
            · replace h := iq c18 h
              by_cases c19 : t12 = t11.1
              · replace h := ip c19 h
                obtain ⟨t13, g20, h⟩ := bindN h
                let C20 := mkCon (laws_toYard.ok k a0 t13 g20) laws_toYard.go
                obtain ⟨t14, g21, h⟩ := bindN h
                let C21 := mkCon (impl_Onward.ok k t13 t14 g21) impl_Onward.go
                obtain ⟨t15, g22, h⟩ := bindN h
                let C22 := mkCon (laws_eqYard.ok k t14 t3 t15 g22) laws_eqYard.go
                by_cases c23 : t15 = true
                · replace h := ip c23 h
                  obtain ⟨t16, g24, h⟩ := bindN h
                  let C24 := mkCon (laws_heldYard.ok k (⟨t5.f0, t11.2.1, (⟨t5.f2.f0, t5.f2.f1, t11.2.2.1⟩ : S41), t5.f3, t5.f4, (⟨t5.f5.f0, t5.f5.f1, t11.2.2.2.1⟩ : S44), t11.2.2.2.2.1, t11.2.2.2.2.2⟩ : S47) 1 t16 g24) laws_heldYard.go
                  by_cases c25 : t16 < 0
                  · replace h := ip c25 h
                    cases h
                    exact rt func3 [.call C1, .b false, .call C3, .call C4, .call C5, .call C6, .call C7, .b false, .call C9, .call C10, .b false, .callW C12 [(7, 1287), (10, 1290), (15, 1295), (16, 1296), (17, 1297)], .dec 37 false, .call C14, .b false, .callW C16 [(7, 1415), (10, 1418), (15, 1423), (16, 1424), (17, 1425)], .call C17, .b false, .b false, .call C20, .call C21, .call C22, .b false, .call C24, .b true, .fin] (oc C1 (oF c2 (oc C3 (oc C4 (oc C5 (oc C6 (oc C7 (o1 (bnf c8) (oc C9 (oc C10 (o1 (bnf c11) (oa (scw_ C12) (oF c13 (oc C14 (o1 (bnf c15) (oa (scw_ C16) (oc C17 (oF c18 (o1 (bnf (decide_eq_true c19)) (oc C20 (oc C21 (oc C22 (o1 (bnf c23) (oc C24 (oT c25 on)))))))))))))))))))))))))
                  · replace h := iq c25 h
                    by_cases c26 : t16 = t11.1
                    · replace h := ip c26 h
                      cases h
                      exact rt func3 [.call C1, .b false, .call C3, .call C4, .call C5, .call C6, .call C7, .b false, .call C9, .call C10, .b false, .callW C12 [(7, 1287), (10, 1290), (15, 1295), (16, 1296), (17, 1297)], .dec 37 false, .call C14, .b false, .callW C16 [(7, 1415), (10, 1418), (15, 1423), (16, 1424), (17, 1425)], .call C17, .b false, .b false, .call C20, .call C21, .call C22, .b false, .call C24, .b false, .b false, .fin] (oc C1 (oF c2 (oc C3 (oc C4 (oc C5 (oc C6 (oc C7 (o1 (bnf c8) (oc C9 (oc C10 (o1 (bnf c11) (oa (scw_ C12) (oF c13 (oc C14 (o1 (bnf c15) (oa (scw_ C16) (oc C17 (oF c18 (o1 (bnf (decide_eq_true c19)) (oc C20 (oc C21 (oc C22 (o1 (bnf c23) (oc C24 (oF c25 (o1 (bnf (decide_eq_true c26)) on))))))))))))))))))))))))))
                    · replace h := iq c26 h
                      cases h
                      exact rt func3 [.call C1, .b false, .call C3, .call C4, .call C5, .call C6, .call C7, .b false, .call C9, .call C10, .b false, .callW C12 [(7, 1287), (10, 1290), (15, 1295), (16, 1296), (17, 1297)], .dec 37 false, .call C14, .b false, .callW C16 [(7, 1415), (10, 1418), (15, 1423), (16, 1424), (17, 1425)], .call C17, .b false, .b false, .call C20, .call C21, .call C22, .b false, .call C24, .b false, .b true, .fin] (oc C1 (oF c2 (oc C3 (oc C4 (oc C5 (oc C6 (oc C7 (o1 (bnf c8) (oc C9 (oc C10 (o1 (bnf c11) (oa (scw_ C12) (oF c13 (oc C14 (o1 (bnf c15) (oa (scw_ C16) (oc C17 (oF c18 (o1 (bnf (decide_eq_true c19)) (oc C20 (oc C21 (oc C22 (o1 (bnf c23) (oc C24 (oF c25 (o1 (bnt (decide_eq_false c26)) on))))))))))))))))))))))))))
                · replace h := iq c23 h
                  cases h
                  exact rt func3 [.call C1, .b false, .call C3, .call C4, .call C5, .call C6, .call C7, .b false, .call C9, .call C10, .b false, .callW C12 [(7, 1287), (10, 1290), (15, 1295), (16, 1296), (17, 1297)], .dec 37 false, .call C14, .b false, .callW C16 [(7, 1415), (10, 1418), (15, 1423), (16, 1424), (17, 1425)], .call C17, .b false, .b false, .call C20, .call C21, .call C22, .b true, .fin] (oc C1 (oF c2 (oc C3 (oc C4 (oc C5 (oc C6 (oc C7 (o1 (bnf c8) (oc C9 (oc C10 (o1 (bnf c11) (oa (scw_ C12) (oF c13 (oc C14 (o1 (bnf c15) (oa (scw_ C16) (oc C17 (oF c18 (o1 (bnf (decide_eq_true c19)) (oc C20 (oc C21 (oc C22 (oN c23 on)))))))))))))))))))))))
              · replace h := iq c19 h
                cases h
                exact rt func3 [.call C1, .b false, .call C3, .call C4, .call C5, .call C6, .call C7, .b false, .call C9, .call C10, .b false, .callW C12 [(7, 1287), (10, 1290), (15, 1295), (16, 1296), (17, 1297)], .dec 37 false, .call C14, .b false, .callW C16 [(7, 1415), (10, 1418), (15, 1423), (16, 1424), (17, 1425)], .call C17, .b false, .b true, .fin] (oc C1 (oF c2 (oc C3 (oc C4 (oc C5 (oc C6 (oc C7 (o1 (bnf c8) (oc C9 (oc C10 (o1 (bnf c11) (oa (scw_ C12) (oF c13 (oc C14 (o1 (bnf c15) (oa (scw_ C16) (oc C17 (oF c18 (o1 (bnt (decide_eq_false c19)) on)))))))))))))))))))
          · replace h := iq c15 h
            cases h
            exact rt func3 [.call C1, .b false, .call C3, .call C4, .call C5, .call C6, .call C7, .b false, .call C9, .call C10, .b false, .callW C12 [(7, 1287), (10, 1290), (15, 1295), (16, 1296), (17, 1297)], .dec 37 false, .call C14, .b true, .fin] (oc C1 (oF c2 (oc C3 (oc C4 (oc C5 (oc C6 (oc C7 (o1 (bnf c8) (oc C9 (oc C10 (o1 (bnf c11) (oa (scw_ C12) (oF c13 (oc C14 (oN c15 on)))))))))))))))
      · replace h := iq c11 h
        cases h
        exact rt func3 [.call C1, .b false, .call C3, .call C4, .call C5, .call C6, .call C7, .b false, .call C9, .call C10, .b true, .fin] (oc C1 (oF c2 (oc C3 (oc C4 (oc C5 (oc C6 (oc C7 (o1 (bnf c8) (oc C9 (oc C10 (oN c11 on)))))))))))
    · replace h := iq c8 h
      cases h
      exact rt func3 [.call C1, .b false, .call C3, .call C4, .call C5, .call C6, .call C7, .b true, .fin] (oc C1 (oF c2 (oc C3 (oc C4 (oc C5 (oc C6 (oc C7 (oN c8 on))))))))
end Go.Proofs.Ytfhjipfkaemapaa.V
