/- What each Go function computes, and that the machine does so: printed by a program of this session (avgen.py). -/
import Derived.Test.YtfhjipfkaemapaaV0
namespace Go.Proofs.Ytfhjipfkaemapaa.V
open Go Go.Av Go.Proofs Go.Proofs.Try
set_option linter.unusedVariables false
set_option maxRecDepth 100000
/-! ### slices_IndexFunc_impl_Robot_impl_Robot_1: function 81 -/
def slices_IndexFunc_impl_Robot_impl_Robot_1.h0T (a0 : List S90) (gi1 : FuncId) (u1_0_0 : V) (v2 : Int) : List (Nat × AV) := [(0, .t (.c (.p false (R 4 e90 z90 a0)))), (1, .bfn gi1 [[u1_0_0]]), (7, .t (.c (.p true (.sc (.int .i64 (a0.length : Int)))))), (8, .t (.c (.p true (iI v2))))]
def slices_IndexFunc_impl_Robot_impl_Robot_1.h0H (a0 : List S90) (gi1 : FuncId) (u1_0_0 : V) (v2 : Int) : List (Nat × Content) := []
def slices_IndexFunc_impl_Robot_impl_Robot_1.l0 : Nat → List S90 → (S90 → Option Bool) → Int → Option Int
  | 0, _, _, _ => none
  | kq + 1, a0, p1, v2 => if v2 < (a0.length : Int) then (if 0 ≤ v2 then ((p1 (rdD z90 a0 v2)).bind fun t3 => if t3 = true then (some v2) else (slices_IndexFunc_impl_Robot_impl_Robot_1.l0 kq a0 p1 (w64 (v2 + 1)))) else none) else (some (-1))
def slices_IndexFunc_impl_Robot_impl_Robot_1.f (k : Nat) (a0 : List S90) (p1 : S90 → Option Bool) : Option Int := slices_IndexFunc_impl_Robot_impl_Robot_1.l0 k a0 p1 0
theorem slices_IndexFunc_impl_Robot_impl_Robot_1.go : Callable prog 81 := ⟨_, func81, by kernel_rfl, rfl⟩
theorem slices_IndexFunc_impl_Robot_impl_Robot_1.ok (k : Nat) (a0 : List S90) (p1 : S90 → Option Bool) (gi1 : FuncId) (u1_0_0 : V) (hp1 : ∀ x0 r, p1 x0 = some r → VCalls prog gi1 [.agg (e90 x0), .ptr [u1_0_0]] [.c (.p (.sc (.bool r)))]) (go1 : Callable prog gi1) (r : Int) (h : slices_IndexFunc_impl_Robot_impl_Robot_1.f k a0 p1 = some r) : VCalls prog 81 [.c (R 4 e90 z90 a0), .fn gi1 [[u1_0_0]]] [.c (.p (iI r))] := by
  unfold slices_IndexFunc_impl_Robot_impl_Robot_1.f at h
  refine VCalls.of (fn := f81) (N := 19) func81 rfl rfl (fun w0 => ?_)
  have H0 : ∀ (kq : Nat) (v2 : Int), slices_IndexFunc_impl_Robot_impl_Robot_1.l0 kq a0 p1 v2 = some r → AG prog 81 19 [.c (.p (iI r))] w0 (headStk (codeOf f81) 0) (mkFS (slices_IndexFunc_impl_Robot_impl_Robot_1.h0T a0 gi1 u1_0_0 v2) (slices_IndexFunc_impl_Robot_impl_Robot_1.h0H a0 gi1 u1_0_0 v2)) := by
    intro kq
    induction kq with
    | zero => intro v2 h; cases h
    | succ kq ih =>
      intro v2 h
      rw [slices_IndexFunc_impl_Robot_impl_Robot_1.l0] at h
      by_cases c4 : v2 < (a0.length : Int)
      · replace h := ip c4 h
        obtain ⟨c5, h⟩ := ifN h
        obtain ⟨t3, g6, h⟩ := bindN h
        let C6 := mkCon (hp1 (rdD z90 a0 v2) t3 g6) go1
        by_cases c7 : t3 = true
        · replace h := ip c7 h
          cases h
          exact rt func81 [.b true, .call C6, .b true, .fin] (oT c4 (o1 c5 (o1 c4 (oc C6 (o1 c7 on)))))
        · replace h := iq c7 h
          exact hd func81 [.b true, .call C6, .b false, .fin] (oT c4 (o1 c5 (o1 c4 (oc C6 (o1 (eqf c7) on))))) (ih (w64 (v2 + 1)) h)
      · replace h := iq c4 h
        cases h
        exact rt func81 [.b false, .fin, .fin] (oF c4 on)
  exact hd func81 [.fin] on (H0 k 0 h)

/-! ### impl_RobotAt: function 77 -/
def impl_RobotAt.f (k : Nat) (a0 : List S90) (a1 : Int) : Option Int := (slices_IndexFunc_impl_Robot_impl_Robot_1.f k a0 (fun x1 => impl_RobotAt_1.f x1 a1)).bind fun t1 => some t1
theorem impl_RobotAt.go : Callable prog 77 := ⟨_, func77, by kernel_rfl, rfl⟩
theorem impl_RobotAt.ok (k : Nat) (a0 : List S90) (a1 : Int) (r : Int) (h : impl_RobotAt.f k a0 a1 = some r) : VCalls prog 77 [.c (R 4 e90 z90 a0), .c (iI a1)] [.c (.p (iI r))] := by
  unfold impl_RobotAt.f at h
  refine VCalls.of (fn := f77) (N := 8) func77 rfl rfl (fun w0 => ?_)
  obtain ⟨t1, g2, h⟩ := bindN h
  let C2 := mkCon (slices_IndexFunc_impl_Robot_impl_Robot_1.ok k a0 (fun x1 => impl_RobotAt_1.f x1 a1) 82 (iI a1) (fun x1 r h => impl_RobotAt_1.ok x1 a1 r h) impl_RobotAt_1.go t1 g2) slices_IndexFunc_impl_Robot_impl_Robot_1.go
  cases h
  exact rt func77 [.call C2, .fin] (oc C2 on)

/-! ### impl_isJob_1: function 79 -/
def impl_isJob_1.f (a0 : S62) (a1 : S62) : Option Bool := some (decide (a0.f0 = a1.f0))
theorem impl_isJob_1.go : Callable prog 79 := ⟨_, func79, by kernel_rfl, rfl⟩
theorem impl_isJob_1.ok (a0 : S62) (a1 : S62) (r : Bool) (h : impl_isJob_1.f a0 a1 = some r) : VCalls prog 79 [.agg (e62 a0), .ptr [.sc (.int .i64 a1.f0), .sc (.int .i64 a1.f1), .sc (.bool a1.f2)]] [.c (.p (.sc (.bool r)))] := by
  unfold impl_isJob_1.f at h
  refine VCalls.of (fn := f79) (N := 9) func79 rfl rfl (fun w0 => ?_)
  cases h
  exact rt func79 [.fin] on

/-! ### slices_IndexFunc_impl_Job_impl_Job_3: function 83 -/
def slices_IndexFunc_impl_Job_impl_Job_3.h0T (a0 : List S62) (gi1 : FuncId) (u1_0_0 : V) (u1_0_1 : V) (u1_0_2 : V) (v2 : Int) : List (Nat × AV) := [(0, .t (.c (.p false (R 3 e62 z62 a0)))), (1, .bfn gi1 [[u1_0_0, u1_0_1, u1_0_2]]), (7, .t (.c (.p true (.sc (.int .i64 (a0.length : Int)))))), (8, .t (.c (.p true (iI v2))))]
def slices_IndexFunc_impl_Job_impl_Job_3.h0H (a0 : List S62) (gi1 : FuncId) (u1_0_0 : V) (u1_0_1 : V) (u1_0_2 : V) (v2 : Int) : List (Nat × Content) := []
def slices_IndexFunc_impl_Job_impl_Job_3.l0 : Nat → List S62 → (S62 → Option Bool) → Int → Option Int
  | 0, _, _, _ => none
  | kq + 1, a0, p1, v2 => if v2 < (a0.length : Int) then (if 0 ≤ v2 then ((p1 (rdD z62 a0 v2)).bind fun t3 => if t3 = true then (some v2) else (slices_IndexFunc_impl_Job_impl_Job_3.l0 kq a0 p1 (w64 (v2 + 1)))) else none) else (some (-1))
def slices_IndexFunc_impl_Job_impl_Job_3.f (k : Nat) (a0 : List S62) (p1 : S62 → Option Bool) : Option Int := slices_IndexFunc_impl_Job_impl_Job_3.l0 k a0 p1 0
theorem slices_IndexFunc_impl_Job_impl_Job_3.go : Callable prog 83 := ⟨_, func83, by kernel_rfl, rfl⟩
theorem slices_IndexFunc_impl_Job_impl_Job_3.ok (k : Nat) (a0 : List S62) (p1 : S62 → Option Bool) (gi1 : FuncId) (u1_0_0 u1_0_1 u1_0_2 : V) (hp1 : ∀ x0 r, p1 x0 = some r → VCalls prog gi1 [.agg (e62 x0), .ptr [u1_0_0, u1_0_1, u1_0_2]] [.c (.p (.sc (.bool r)))]) (go1 : Callable prog gi1) (r : Int) (h : slices_IndexFunc_impl_Job_impl_Job_3.f k a0 p1 = some r) : VCalls prog 83 [.c (R 3 e62 z62 a0), .fn gi1 [[u1_0_0, u1_0_1, u1_0_2]]] [.c (.p (iI r))] := by
  unfold slices_IndexFunc_impl_Job_impl_Job_3.f at h
  refine VCalls.of (fn := f83) (N := 19) func83 rfl rfl (fun w0 => ?_)
  have H0 : ∀ (kq : Nat) (v2 : Int), slices_IndexFunc_impl_Job_impl_Job_3.l0 kq a0 p1 v2 = some r → AG prog 83 19 [.c (.p (iI r))] w0 (headStk (codeOf f83) 0) (mkFS (slices_IndexFunc_impl_Job_impl_Job_3.h0T a0 gi1 u1_0_0 u1_0_1 u1_0_2 v2) (slices_IndexFunc_impl_Job_impl_Job_3.h0H a0 gi1 u1_0_0 u1_0_1 u1_0_2 v2)) := by
    intro kq
    induction kq with
    | zero => intro v2 h; cases h
    | succ kq ih =>
      intro v2 h
      rw [slices_IndexFunc_impl_Job_impl_Job_3.l0] at h
      by_cases c4 : v2 < (a0.length : Int)
      · replace h := ip c4 h
        obtain ⟨c5, h⟩ := ifN h
        obtain ⟨t3, g6, h⟩ := bindN h
        let C6 := mkCon (hp1 (rdD z62 a0 v2) t3 g6) go1
        by_cases c7 : t3 = true
        · replace h := ip c7 h
          cases h
          exact rt func83 [.b true, .call C6, .b true, .fin] (oT c4 (o1 c5 (o1 c4 (oc C6 (o1 c7 on)))))
        · replace h := iq c7 h
          exact hd func83 [.b true, .call C6, .b false, .fin] (oT c4 (o1 c5 (o1 c4 (oc C6 (o1 (eqf c7) on))))) (ih (w64 (v2 + 1)) h)
      · replace h := iq c4 h
        cases h
        exact rt func83 [.b false, .fin, .fin] (oF c4 on)
  exact hd func83 [.fin] on (H0 k 0 h)

/-! ### slices_ContainsFunc_impl_Job_impl_Job_3: function 78 -/
def slices_ContainsFunc_impl_Job_impl_Job_3.f (k : Nat) (a0 : List S62) (p1 : S62 → Option Bool) : Option Bool := (slices_IndexFunc_impl_Job_impl_Job_3.f k a0 p1).bind fun t1 => some (decide (0 ≤ t1))
theorem slices_ContainsFunc_impl_Job_impl_Job_3.go : Callable prog 78 := ⟨_, func78, by kernel_rfl, rfl⟩
theorem slices_ContainsFunc_impl_Job_impl_Job_3.ok (k : Nat) (a0 : List S62) (p1 : S62 → Option Bool) (gi1 : FuncId) (u1_0_0 u1_0_1 u1_0_2 : V) (hp1 : ∀ x0 r, p1 x0 = some r → VCalls prog gi1 [.agg (e62 x0), .ptr [u1_0_0, u1_0_1, u1_0_2]] [.c (.p (.sc (.bool r)))]) (go1 : Callable prog gi1) (r : Bool) (h : slices_ContainsFunc_impl_Job_impl_Job_3.f k a0 p1 = some r) : VCalls prog 78 [.c (R 3 e62 z62 a0), .fn gi1 [[u1_0_0, u1_0_1, u1_0_2]]] [.c (.p (.sc (.bool r)))] := by
  unfold slices_ContainsFunc_impl_Job_impl_Job_3.f at h
  refine VCalls.of (fn := f78) (N := 9) func78 rfl rfl (fun w0 => ?_)
  obtain ⟨t1, g1, h⟩ := bindN h
  let C1 := mkCon (slices_IndexFunc_impl_Job_impl_Job_3.ok k a0 p1 gi1 u1_0_0 u1_0_1 u1_0_2 hp1 go1 t1 g1) slices_IndexFunc_impl_Job_impl_Job_3.go
  cases h
  exact rt func78 [.call C1, .fin] (oc C1 on)

/-! ### impl_isJob: function 63 -/
def impl_isJob.f (k : Nat) (a0 : S47) (a1 : Int) (a2 : Int) : Option Bool := if 0 ≤ a1 then (if a1 < (a0.f6.length : Int) then (if a1 < (a0.f5.f2.length : Int) then ((impl_RobotAt.f k a0.f1 ((rdD z62 a0.f6 a1).f0)).bind fun t1 => if t1 < 0 then (some false) else (if 0 ≤ t1 then (if t1 < (a0.f1.length : Int) then (if (rdD z90 a0.f1 t1).f3 = true then (some false) else (if (rdD z62 a0.f6 a1).f1 < 0 then (some false) else (if a0.f5.f0 < (rdD z62 a0.f6 a1).f1 then (some false) else (if (w64 (a2 + 1)) < (rdD z62 a0.f6 a1).f1 then (some false) else (if a1 ≤ (a0.f6.length : Int) then ((slices_ContainsFunc_impl_Job_impl_Job_3.f k ((a0.f6.drop (0 : Int).toNat).take (a1.toNat - (0 : Int).toNat)) (fun x13 => impl_isJob_1.f x13 (rdD z62 a0.f6 a1))).bind fun t2 => if t2 = true then (some false) else (if 0 ≤ (rdD z62 a0.f6 a1).f1 then (if (rdD z62 a0.f6 a1).f1 < (((rdD z64 a0.f5.f2 a1).f0).length : Int) then (if (rdD z90 a0.f1 t1).f1 = (rdD 0 ((rdD z64 a0.f5.f2 a1).f0) ((rdD z62 a0.f6 a1).f1)) then (if (rdD z62 a0.f6 a1).f2 = true then (if (rdD z62 a0.f6 a1).f1 < a0.f5.f0 then (if 0 ≤ (w64 ((rdD z62 a0.f6 a1).f1 + 1)) then (if (w64 ((rdD z62 a0.f6 a1).f1 + 1)) < (((rdD z64 a0.f5.f2 a1).f0).length : Int) then (some (decide ((rdD z90 a0.f1 t1).f2 = (rdD 0 ((rdD z64 a0.f5.f2 a1).f0) (w64 ((rdD z62 a0.f6 a1).f1 + 1)))))) else none) else none) else (some false)) else (some (decide ((rdD z90 a0.f1 t1).f2 = (-1))))) else (some false)) else none) else none)) else none))))) else none) else none)) else none) else none) else none
theorem impl_isJob.go : Callable prog 63 := ⟨_, func63, by kernel_rfl, rfl⟩
theorem impl_isJob.ok (k : Nat) (a0 : S47) (a1 : Int) (a2 : Int) (r : Bool) (h : impl_isJob.f k a0 a1 a2 = some r) : VCalls prog 63 [.agg (e47 a0), .c (iI a1), .c (iI a2)] [.c (.p (.sc (.bool r)))] := by
  unfold impl_isJob.f at h
  refine VCalls.of (fn := f63) (N := 107) func63 rfl rfl (fun w0 => ?_)
  obtain ⟨c1, h⟩ := ifN h
  obtain ⟨c2, h⟩ := ifN h
  obtain ⟨c3, h⟩ := ifN h
  obtain ⟨t1, g4, h⟩ := bindN h
  let C4 := mkCon (impl_RobotAt.ok k a0.f1 ((rdD z62 a0.f6 a1).f0) t1 g4) impl_RobotAt.go
  by_cases c5 : t1 < 0
  · replace h := ip c5 h
    cases h
    exact rt func63 [.call C4, .dec 29 true, .b true, .fin] (o1 c1 (o1 c2 (o1 c1 (o1 c3 (oc C4 (oT c5 (oR on)))))))
  · replace h := iq c5 h
    obtain ⟨c6, h⟩ := ifN h
    obtain ⟨c7, h⟩ := ifN h
    by_cases c8 : (rdD z90 a0.f1 t1).f3 = true
    · replace h := ip c8 h
      cases h
      exact rt func63 [.call C4, .dec 29 false, .dec 37 true, .b true, .fin] (o1 c1 (o1 c2 (o1 c1 (o1 c3 (oc C4 (oF c5 (o1 c6 (o1 c7 (o1 c8 (oR on))))))))))
    · replace h := iq c8 h
      by_cases c9 : (rdD z62 a0.f6 a1).f1 < 0
      · replace h := ip c9 h
        cases h
        exact rt func63 [.call C4, .dec 29 false, .dec 37 false, .dec 42 true, .b true, .fin] (o1 c1 (o1 c2 (o1 c1 (o1 c3 (oc C4 (oF c5 (o1 c6 (o1 c7 (o1 (eqf c8) (oT c9 (oR on)))))))))))
      · replace h := iq c9 h
        by_cases c10 : a0.f5.f0 < (rdD z62 a0.f6 a1).f1
        · replace h := ip c10 h
          cases h
          exact rt func63 [.call C4, .dec 29 false, .dec 37 false, .dec 42 false, .dec 50 true, .b true, .fin] (o1 c1 (o1 c2 (o1 c1 (o1 c3 (oc C4 (oF c5 (o1 c6 (o1 c7 (o1 (eqf c8) (oF c9 (oT c10 (oR on))))))))))))
        · replace h := iq c10 h
          by_cases c11 : (w64 (a2 + 1)) < (rdD z62 a0.f6 a1).f1
          · replace h := ip c11 h
            cases h
            exact rt func63 [.call C4, .dec 29 false, .dec 37 false, .dec 42 false, .dec 50 false, .b true, .fin] (o1 c1 (o1 c2 (o1 c1 (o1 c3 (oc C4 (oF c5 (o1 c6 (o1 c7 (o1 (eqf c8) (oF c9 (oF c10 (oT c11 on))))))))))))
          · replace h := iq c11 h
            obtain ⟨c12, h⟩ := ifN h
            obtain ⟨t2, g14, h⟩ := bindN h
            let C14 := mkCon (slices_ContainsFunc_impl_Job_impl_Job_3.ok k ((a0.f6.drop (0 : Int).toNat).take (a1.toNat - (0 : Int).toNat)) (fun x13 => impl_isJob_1.f x13 (rdD z62 a0.f6 a1)) 79 (.sc (.int .i64 ((rdD z62 a0.f6 a1).f0))) (.sc (.int .i64 ((rdD z62 a0.f6 a1).f1))) (.sc (.bool ((rdD z62 a0.f6 a1).f2))) (fun x13 r h => impl_isJob_1.ok x13 (rdD z62 a0.f6 a1) r h) impl_isJob_1.go t2 g14) slices_ContainsFunc_impl_Job_impl_Job_3.go
            by_cases c15 : t2 = true
            · replace h := ip c15 h
              cases h
              exact rt func63 [.call C4, .dec 29 false, .dec 37 false, .dec 42 false, .dec 50 false, .b false, .cst 60 (R 3 e62 z62 ((a0.f6.drop (0 : Int).toNat).take (a1.toNat - (0 : Int).toNat))), .call C14, .dec 63 true, .b true, .fin] (o1 c1 (o1 c2 (o1 c1 (o1 c3 (oc C4 (oF c5 (o1 c6 (o1 c7 (o1 (eqf c8) (oF c9 (oF c10 (oF c11 (o1 (by decide : (0 : Int) ≤ 0) (o1 c1 (o1 c12 (o1 (VE.cut (z := 3) (e := e62) (d := z62) a0.f6 (n := a0.f6.length) (lo := 0) (hi := a1) rfl (by decide : (0 : Int) ≤ 0) c1 c12) (oc C14 (o1 c15 (oR on)))))))))))))))))))
            · replace h := iq c15 h
              obtain ⟨c16, h⟩ := ifN h
              obtain ⟨c17, h⟩ := ifN h
              by_cases c18 : (rdD z90 a0.f1 t1).f1 = (rdD 0 ((rdD z64 a0.f5.f2 a1).f0) ((rdD z62 a0.f6 a1).f1))
              · replace h := ip c18 h
                by_cases c19 : (rdD z62 a0.f6 a1).f2 = true
                · replace h := ip c19 h
                  by_cases c20 : (rdD z62 a0.f6 a1).f1 < a0.f5.f0
                  · replace h := ip c20 h
                    obtain ⟨c21, h⟩ := ifN h
                    obtain ⟨c22, h⟩ := ifN h
                    cases h
                    exact rt func63 [.call C4, .dec 29 false, .dec 37 false, .dec 42 false, .dec 50 false, .b false, .cst 60 (R 3 e62 z62 ((a0.f6.drop (0 : Int).toNat).take (a1.toNat - (0 : Int).toNat))), .call C14, .dec 63 false, .b false, .b true, .dec 85 true, .fin] (o1 c1 (o1 c2 (o1 c1 (o1 c3 (oc C4 (oF c5 (o1 c6 (o1 c7 (o1 (eqf c8) (oF c9 (oF c10 (oF c11 (o1 (by decide : (0 : Int) ≤ 0) (o1 c1 (o1 c12 (o1 (VE.cut (z := 3) (e := e62) (d := z62) a0.f6 (n := a0.f6.length) (lo := 0) (hi := a1) rfl (by decide : (0 : Int) ≤ 0) c1 c12) (oc C14 (o1 (eqf c15) (o1 c6 (o1 c7 (o1 c16 (o1 c17 (o1 (bnf (decide_eq_true c18)) (o1 c19 (oT c20 (o1 c6 (o1 c7 (o1 c21 (o1 c22 on)))))))))))))))))))))))))))))
                  · replace h := iq c20 h
                    cases h
                    exact rt func63 [.call C4, .dec 29 false, .dec 37 false, .dec 42 false, .dec 50 false, .b false, .cst 60 (R 3 e62 z62 ((a0.f6.drop (0 : Int).toNat).take (a1.toNat - (0 : Int).toNat))), .call C14, .dec 63 false, .b false, .b true, .dec 85 false, .fin] (o1 c1 (o1 c2 (o1 c1 (o1 c3 (oc C4 (oF c5 (o1 c6 (o1 c7 (o1 (eqf c8) (oF c9 (oF c10 (oF c11 (o1 (by decide : (0 : Int) ≤ 0) (o1 c1 (o1 c12 (o1 (VE.cut (z := 3) (e := e62) (d := z62) a0.f6 (n := a0.f6.length) (lo := 0) (hi := a1) rfl (by decide : (0 : Int) ≤ 0) c1 c12) (oc C14 (o1 (eqf c15) (o1 c6 (o1 c7 (o1 c16 (o1 c17 (o1 (bnf (decide_eq_true c18)) (o1 c19 (oF c20 on)))))))))))))))))))))))))
                · replace h := iq c19 h
                  cases h
                  exact rt func63 [.call C4, .dec 29 false, .dec 37 false, .dec 42 false, .dec 50 false, .b false, .cst 60 (R 3 e62 z62 ((a0.f6.drop (0 : Int).toNat).take (a1.toNat - (0 : Int).toNat))), .call C14, .dec 63 false, .b false, .b false, .fin] (o1 c1 (o1 c2 (o1 c1 (o1 c3 (oc C4 (oF c5 (o1 c6 (o1 c7 (o1 (eqf c8) (oF c9 (oF c10 (oF c11 (o1 (by decide : (0 : Int) ≤ 0) (o1 c1 (o1 c12 (o1 (VE.cut (z := 3) (e := e62) (d := z62) a0.f6 (n := a0.f6.length) (lo := 0) (hi := a1) rfl (by decide : (0 : Int) ≤ 0) c1 c12) (oc C14 (o1 (eqf c15) (o1 c6 (o1 c7 (o1 c16 (o1 c17 (o1 (bnf (decide_eq_true c18)) (o1 (eqf c19) (o1 c6 (o1 c7 on))))))))))))))))))))))))))
              · replace h := iq c18 h
                cases h
                exact rt func63 [.call C4, .dec 29 false, .dec 37 false, .dec 42 false, .dec 50 false, .b false, .cst 60 (R 3 e62 z62 ((a0.f6.drop (0 : Int).toNat).take (a1.toNat - (0 : Int).toNat))), .call C14, .dec 63 false, .b true, .fin] (o1 c1 (o1 c2 (o1 c1 (o1 c3 (oc C4 (oF c5 (o1 c6 (o1 c7 (o1 (eqf c8) (oF c9 (oF c10 (oF c11 (o1 (by decide : (0 : Int) ≤ 0) (o1 c1 (o1 c12 (o1 (VE.cut (z := 3) (e := e62) (d := z62) a0.f6 (n := a0.f6.length) (lo := 0) (hi := a1) rfl (by decide : (0 : Int) ≤ 0) c1 c12) (oc C14 (o1 (eqf c15) (o1 c6 (o1 c7 (o1 c16 (o1 c17 (o1 (bnt (decide_eq_false c18)) on)))))))))))))))))))))))

/-! ### impl_jobsOk: function 27 -/
def impl_jobsOk.h0T (a1 : Bool) (t2 : Int) (a0 : S47) (v4 : Int) : List (Nat × AV) := [(1, .t (.c (.p false (.sc (.bool a1))))), (2, .ptr 128 0), (5, .ptr 320 0), (6, .t (.c (.p true (iI t2)))), (70, .t (.c (.p true (.sc (.int .i64 (a0.f6.length : Int)))))), (71, .t (.c (.p true (iI v4))))]
def impl_jobsOk.h0H (a1 : Bool) (t2 : Int) (a0 : S47) (v4 : Int) : List (Nat × Content) := [(128, .box 47 [.p false (iI a0.f0.f0.f0), .p false (iI a0.f0.f0.f1), .p false (.sc (.string a0.f0.f0.f2)), .p false (iI a0.f0.f1), .p false (iI a0.f0.f2), .p false (iI a0.f0.f3), .p false (iI a0.f0.f4), .p false (R 4 e90 z90 a0.f1), .p false (iI a0.f2.f0), .p false (iI a0.f2.f1), .p false (R 1 (eI .i64) 0 a0.f2.f2), .p false (iI a0.f3), .p false (.sc (.bool a0.f4)), .p false (iI a0.f5.f0), .p false (iI a0.f5.f1), .p false (R 1 e64 z64 a0.f5.f2), .p false (R 3 e62 z62 a0.f6), .p false (R 1 (eI .i64) 0 a0.f7)]), (320, .box 44 [.p false (iI a0.f5.f0), .p false (iI a0.f5.f1), .p false (R 1 e64 z64 a0.f5.f2)])]
def impl_jobsOk.l0 : Nat → S47 → Int → Bool → Int → Option Bool
  | 0, _, _, _, _ => none
  | kq + 1, a0, t2, a1, v4 => if v4 < (a0.f6.length : Int) then ((impl_isJob.f kq a0 v4 t2).bind fun t5 => if t5 = true then (impl_jobsOk.l0 kq a0 t2 a1 (w64 (v4 + 1))) else (some false)) else (if a1 = true then (some true) else (some (decide (t2 < a0.f5.f0))))
def impl_jobsOk.f (k : Nat) (a0 : S47) (a1 : Bool) : Option Bool := if a0.f4 = true then (if a0.f5.f0 < 0 then (some false) else (if 20 < a0.f5.f0 then (some false) else (if (a0.f6.length : Int) < 1 then (some false) else (if 10 < (a0.f6.length : Int) then (some false) else (if (a0.f6.length : Int) = (a0.f5.f2.length : Int) then ((slices_ContainsFunc_impl_Way_impl_Way_3.f k a0.f5.f2 (fun x7 => impl_jobsOk_1.f x7 a0.f5)).bind fun t1 => if t1 = true then (some false) else ((impl_LayerOf.f k a0).bind fun t2 => impl_jobsOk.l0 k a0 t2 a1 0)) else (some false)))))) else (if a0.f5.f0 = 0 then (if a0.f5.f1 = 0 then (if (a0.f5.f2.length : Int) = 0 then (some (decide ((a0.f6.length : Int) = 0))) else (some false)) else (some false)) else (some false))
theorem impl_jobsOk.go : Callable prog 27 := ⟨_, func27, by kernel_rfl, rfl⟩
theorem impl_jobsOk.ok (k : Nat) (a0 : S47) (a1 : Bool) (r : Bool) (h : impl_jobsOk.f k a0 a1 = some r) : VCalls prog 27 [.agg (e47 a0), .c (.sc (.bool a1))] [.c (.p (.sc (.bool r)))] := by
  unfold impl_jobsOk.f at h
  refine VCalls.of (fn := f27) (N := 87) func27 rfl rfl (fun w0 => ?_)
  by_cases c1 : a0.f4 = true
  · replace h := ip c1 h
    by_cases c2 : a0.f5.f0 < 0
    · replace h := ip c2 h
      cases h
      exact rt func27 [.b false, .dec 36 true, .b true, .fin] (o1 (bnf c1) (oT c2 (oR on)))
    · replace h := iq c2 h
      by_cases c3 : 20 < a0.f5.f0
      · replace h := ip c3 h
        cases h
        exact rt func27 [.b false, .dec 36 false, .dec 41 true, .b true, .fin] (o1 (bnf c1) (oF c2 (oT c3 (oR on))))
      · replace h := iq c3 h
        by_cases c4 : (a0.f6.length : Int) < 1
        · replace h := ip c4 h
          cases h
          exact rt func27 [.b false, .dec 36 false, .dec 41 false, .dec 47 true, .b true, .fin] (o1 (bnf c1) (oF c2 (oF c3 (oT c4 (oR on)))))
        · replace h := iq c4 h
          by_cases c5 : 10 < (a0.f6.length : Int)
          · replace h := ip c5 h
            cases h
            exact rt func27 [.b false, .dec 36 false, .dec 41 false, .dec 47 false, .dec 53 true, .b true, .fin] (o1 (bnf c1) (oF c2 (oF c3 (oF c4 (oT c5 (oR on))))))
          · replace h := iq c5 h
            by_cases c6 : (a0.f6.length : Int) = (a0.f5.f2.length : Int)
            · replace h := ip c6 h
              obtain ⟨t1, g8, h⟩ := bindN h
              let C8 := mkCon (slices_ContainsFunc_impl_Way_impl_Way_3.ok k a0.f5.f2 (fun x7 => impl_jobsOk_1.f x7 a0.f5) 62 (iI a0.f5.f0) (iI a0.f5.f1) (R 1 e64 z64 a0.f5.f2) (fun x7 r h => impl_jobsOk_1.ok x7 a0.f5 r h) impl_jobsOk_1.go t1 g8) slices_ContainsFunc_impl_Way_impl_Way_3.go
              by_cases c9 : t1 = true
              · replace h := ip c9 h
                cases h
                exact rt func27 [.b false, .dec 36 false, .dec 41 false, .dec 47 false, .dec 53 false, .b false, .call C8, .b true, .fin] (o1 (bnf c1) (oF c2 (oF c3 (oF c4 (oF c5 (o1 (bnf (decide_eq_true c6)) (oc C8 (o1 c9 on))))))))
              · replace h := iq c9 h
                obtain ⟨t2, g10, h⟩ := bindN h
                let C10 := mkCon (impl_LayerOf.ok k a0 t2 g10) impl_LayerOf.go
                have H0 : ∀ (kq : Nat) (v4 : Int), impl_jobsOk.l0 kq a0 t2 a1 v4 = some r → AG prog 27 87 [.c (.p (.sc (.bool r)))] w0 (headStk (codeOf f27) 0) (mkFS (impl_jobsOk.h0T a1 t2 a0 v4) (impl_jobsOk.h0H a1 t2 a0 v4)) := by
                  intro kq
                  induction kq with
                  | zero => intro v4 h; cases h
                  | succ kq ih =>
                    intro v4 h
                    rw [impl_jobsOk.l0] at h
                    by_cases c14 : v4 < (a0.f6.length : Int)
                    · replace h := ip c14 h
                      obtain ⟨t5, g15, h⟩ := bindN h
                      let C15 := mkCon (impl_isJob.ok kq a0 v4 t2 t5 g15) impl_isJob.go
                      by_cases c16 : t5 = true
                      · replace h := ip c16 h
                        exact hd func27 [.b true, .call C15, .b false, .fin] (oT c14 (oc C15 (o1 (bnf c16) on))) (ih (w64 (v4 + 1)) h)
                      · replace h := iq c16 h
                        cases h
                        exact rt func27 [.b true, .call C15, .b true, .fin] (oT c14 (oc C15 (oN c16 on)))
                    · replace h := iq c14 h
                      by_cases c17 : a1 = true
                      · replace h := ip c17 h
                        cases h
                        exact rt func27 [.b false, .fin, .dec 81 true, .fin] (oF c14 (o1 c17 on))
                      · replace h := iq c17 h
                        cases h
                        exact rt func27 [.b false, .fin, .dec 81 false, .fin] (oF c14 (o1 (eqf c17) on))
                exact hd func27 [.b false, .dec 36 false, .dec 41 false, .dec 47 false, .dec 53 false, .b false, .call C8, .b false, .call C10, .fin] (o1 (bnf c1) (oF c2 (oF c3 (oF c4 (oF c5 (o1 (bnf (decide_eq_true c6)) (oc C8 (o1 (eqf c9) (oc C10 on))))))))) (H0 k 0 h)
            · replace h := iq c6 h
              cases h
              exact rt func27 [.b false, .dec 36 false, .dec 41 false, .dec 47 false, .dec 53 false, .b true, .fin] (o1 (bnf c1) (oF c2 (oF c3 (oF c4 (oF c5 (o1 (bnt (decide_eq_false c6)) on))))))
  · replace h := iq c1 h
    by_cases c18 : a0.f5.f0 = 0
    · replace h := ip c18 h
      by_cases c19 : a0.f5.f1 = 0
      · replace h := ip c19 h
        by_cases c20 : (a0.f5.f2.length : Int) = 0
        · replace h := ip c20 h
          cases h
          exact rt func27 [.b true, .dec 16 true, .dec 21 true, .dec 27 true, .fin] (oN c1 (oT c18 (oT c19 (oT c20 on))))
        · replace h := iq c20 h
          cases h
          exact rt func27 [.b true, .dec 16 true, .dec 21 true, .dec 27 false, .fin] (oN c1 (oT c18 (oT c19 (oF c20 on))))
      · replace h := iq c19 h
        cases h
        exact rt func27 [.b true, .dec 16 true, .dec 21 false, .fin] (oN c1 (oT c18 (oF c19 on)))
    · replace h := iq c18 h
      cases h
      exact rt func27 [.b true, .dec 16 false, .fin] (oN c1 (oF c18 on))

/-! ### impl_ended: function 29 -/
def impl_ended.out : List (Nat ⊕ Value) := [.inl 0, .inl 1, .inl 2, .inl 3, .inl 4, .inl 5, .inl 6, .inl 7, .inl 8, .inl 9, .inl 10, .inl 11, .inr (.bool false), .inr (.int .i64 0), .inr (.int .i64 0), .inr (.slice none 0 0), .inr (.slice none 0 0), .inl 17]
theorem impl_ended.go : Callable prog 29 := ⟨_, func29, by kernel_rfl, rfl⟩
theorem impl_ended.passok (vs : List Value) (hl : vs.length = 18) (hv : ∀ u ∈ vs, u.oneCell' = true) : VCalls prog 29 [.agg (vs.map .sc)] [.agg ((pickV impl_ended.out vs).map fun v => .p (.sc v))] := by
  match vs, hl with
  | [v0, v1, v2, v3, v4, v5, v6, v7, v8, v9, v10, v11, v12, v13, v14, v15, v16, v17], _ =>
    refine VCalls.of (fn := f29) (N := 8) func29 rfl rfl (fun w0 => ?_)
    exact rt func29 [.fin] on
def impl_ended.pass : PCon prog := ⟨29, 18, impl_ended.out, impl_ended.passok, impl_ended.go⟩

/-! ### impl_Onward: function 7 -/
def impl_Onward.h1T (v46 : Bool) (t34 : Int) (v32 : List S62) (v45 : Int) (t1 : S47) (v44 : List S62) : List (Nat × AV) := [(2, .ptr 128 0), (3, .ptr 192 0), (4, .t (.c (.p true (.sc (.bool v46))))), (5, .t (.c (.p true (iI t34)))), (24, .t (.c (.h 656))), (25, .t (.c (.p true (.sc (.int .i64 (v32.length : Int)))))), (26, .t (.c (.p true (iI v45))))]
def impl_Onward.h1H (v46 : Bool) (t34 : Int) (v32 : List S62) (v45 : Int) (t1 : S47) (v44 : List S62) : List (Nat × Content) := [(128, .box 47 [.p true (iI 0), .p true (iI 0), .p true (.sc (.string (⟨#[]⟩ : ByteArray))), .p true (iI 0), .p true (iI 0), .p true (iI 0), .p true (iI 0), .p true (.sc (.slice none 0 0)), .p true (iI 0), .p true (iI 0), .p true (.sc (.slice none 0 0)), .p true (iI 0), .p true (.sc (.bool false)), .p true (iI 0), .p true (iI 0), .p true (.sc (.slice none 0 0)), .p true (.sc (.slice none 0 0)), .p true (.sc (.slice none 0 0))]), (192, .box 47 [.p true (iI t1.f0.f0.f0), .p true (iI t1.f0.f0.f1), .p true (.sc (.string t1.f0.f0.f2)), .p true (iI t1.f0.f1), .p true (iI t1.f0.f2), .p true (iI t1.f0.f3), .p true (iI t1.f0.f4), .h 647, .p true (iI t1.f2.f0), .p true (iI t1.f2.f1), .h 650, .p true (iI t1.f3), .p true (.sc (.bool t1.f4)), .p true (iI t1.f5.f0), .p true (iI t1.f5.f1), .hn 655, .h 656, .h 657]), (647, .row 90 4 t1.f1.length (fun j => e90 (t1.f1.getD j z90)) true), (650, .row 3 1 t1.f2.f2.length (fun j => (eI .i64) (t1.f2.f2.getD j 0)) true), (655, NC 64 3 S64.f0 (Value.int .i64) z64 0 t1.f5.f2), (656, .row 62 3 v44.length (fun j => e62 (v44.getD j z62)) true), (657, .row 3 1 t1.f7.length (fun j => (eI .i64) (t1.f7.getD j 0)) true)]
def impl_Onward.x1T (y47 : (List S62) × Bool) (t1 : S47) : List (Nat × AV) := [(2, .ptr 128 0), (3, .ptr 192 0), (4, .t (.c (.p true (.sc (.bool y47.2)))))]
def impl_Onward.x1H (y47 : (List S62) × Bool) (t1 : S47) : List (Nat × Content) := [(128, .box 47 [.p true (iI 0), .p true (iI 0), .p true (.sc (.string (⟨#[]⟩ : ByteArray))), .p true (iI 0), .p true (iI 0), .p true (iI 0), .p true (iI 0), .p true (.sc (.slice none 0 0)), .p true (iI 0), .p true (iI 0), .p true (.sc (.slice none 0 0)), .p true (iI 0), .p true (.sc (.bool false)), .p true (iI 0), .p true (iI 0), .p true (.sc (.slice none 0 0)), .p true (.sc (.slice none 0 0)), .p true (.sc (.slice none 0 0))]), (192, .box 47 [.p true (iI t1.f0.f0.f0), .p true (iI t1.f0.f0.f1), .p true (.sc (.string t1.f0.f0.f2)), .p true (iI t1.f0.f1), .p true (iI t1.f0.f2), .p true (iI t1.f0.f3), .p true (iI t1.f0.f4), .h 647, .p true (iI t1.f2.f0), .p true (iI t1.f2.f1), .h 650, .p true (iI t1.f3), .p true (.sc (.bool t1.f4)), .p true (iI t1.f5.f0), .p true (iI t1.f5.f1), .hn 655, .h 656, .h 657]), (647, .row 90 4 t1.f1.length (fun j => e90 (t1.f1.getD j z90)) true), (650, .row 3 1 t1.f2.f2.length (fun j => (eI .i64) (t1.f2.f2.getD j 0)) true), (655, NC 64 3 S64.f0 (Value.int .i64) z64 0 t1.f5.f2), (656, .row 62 3 y47.1.length (fun j => e62 (y47.1.getD j z62)) true), (657, .row 3 1 t1.f7.length (fun j => (eI .i64) (t1.f7.getD j 0)) true)]
def impl_Onward.l1 : Nat → List S62 → S47 → Int → List S62 → Int → Bool → Option ((List S62) × Bool)
  | 0, _, _, _, _, _, _ => none
  | kq + 1, v32, t1, t34, v44, v45, v46 => if v45 < (v32.length : Int) then (if 0 ≤ v45 then (if v45 < (v44.length : Int) then (if v45 < (t1.f5.f2.length : Int) then (if (rdD z62 v44 v45).f2 = true then (impl_Onward.l1 kq v32 t1 t34 v44 (w64 (v45 + 1)) v46) else (if (rdD z62 v44 v45).f1 = t34 then (if t34 < t1.f5.f0 then (if 0 ≤ (rdD z62 v44 v45).f1 then (if (rdD z62 v44 v45).f1 < (((rdD z64 t1.f5.f2 v45).f0).length : Int) then (if 0 ≤ (w64 ((rdD z62 v44 v45).f1 + 1)) then (if (w64 ((rdD z62 v44 v45).f1 + 1)) < (((rdD z64 t1.f5.f2 v45).f0).length : Int) then (if (rdD 0 ((rdD z64 t1.f5.f2 v45).f0) ((rdD z62 v44 v45).f1)) = (rdD 0 ((rdD z64 t1.f5.f2 v45).f0) (w64 ((rdD z62 v44 v45).f1 + 1))) then (impl_Onward.l1 kq v32 t1 t34 (v44.set v45.toNat (⟨(rdD z62 v44 v45).f0, (w64 ((rdD z62 v44 v45).f1 + 1)), (rdD z62 v44 v45).f2⟩ : S62)) (w64 (v45 + 1)) true) else (impl_Onward.l1 kq v32 t1 t34 v44 (w64 (v45 + 1)) v46)) else none) else none) else none) else none) else (impl_Onward.l1 kq v32 t1 t34 v44 (w64 (v45 + 1)) v46)) else (impl_Onward.l1 kq v32 t1 t34 v44 (w64 (v45 + 1)) v46))) else none) else none) else none) else (some (v44, v46))
def impl_Onward.h0T (v33 : Bool) (t1 : S47) (v32 : List S62) : List (Nat × AV) := [(2, .ptr 128 0), (3, .ptr 192 0), (4, .t (.c (.p true (.sc (.bool v33)))))]
def impl_Onward.h0H (v33 : Bool) (t1 : S47) (v32 : List S62) : List (Nat × Content) := [(128, .box 47 [.p true (iI 0), .p true (iI 0), .p true (.sc (.string (⟨#[]⟩ : ByteArray))), .p true (iI 0), .p true (iI 0), .p true (iI 0), .p true (iI 0), .p true (.sc (.slice none 0 0)), .p true (iI 0), .p true (iI 0), .p true (.sc (.slice none 0 0)), .p true (iI 0), .p true (.sc (.bool false)), .p true (iI 0), .p true (iI 0), .p true (.sc (.slice none 0 0)), .p true (.sc (.slice none 0 0)), .p true (.sc (.slice none 0 0))]), (192, .box 47 [.p true (iI t1.f0.f0.f0), .p true (iI t1.f0.f0.f1), .p true (.sc (.string t1.f0.f0.f2)), .p true (iI t1.f0.f1), .p true (iI t1.f0.f2), .p true (iI t1.f0.f3), .p true (iI t1.f0.f4), .h 647, .p true (iI t1.f2.f0), .p true (iI t1.f2.f1), .h 650, .p true (iI t1.f3), .p true (.sc (.bool t1.f4)), .p true (iI t1.f5.f0), .p true (iI t1.f5.f1), .hn 655, .h 656, .h 657]), (647, .row 90 4 t1.f1.length (fun j => e90 (t1.f1.getD j z90)) true), (650, .row 3 1 t1.f2.f2.length (fun j => (eI .i64) (t1.f2.f2.getD j 0)) true), (655, NC 64 3 S64.f0 (Value.int .i64) z64 0 t1.f5.f2), (656, .row 62 3 v32.length (fun j => e62 (v32.getD j z62)) true), (657, .row 3 1 t1.f7.length (fun j => (eI .i64) (t1.f7.getD j 0)) true)]
def impl_Onward.l0 : Nat → S47 → List S62 → Bool → Option S47
  | 0, _, _, _ => none
  | kq + 1, t1, v32, v33 => if v33 = true then ((impl_LayerOf.f kq (⟨t1.f0, t1.f1, t1.f2, t1.f3, t1.f4, t1.f5, v32, t1.f7⟩ : S47)).bind fun t34 => (impl_Onward.l1 kq v32 t1 t34 v32 0 false).bind fun y47 => (impl_Onward.l0 kq t1 y47.1 y47.2)) else ((impl_LayerOf.f kq (⟨t1.f0, t1.f1, t1.f2, t1.f3, t1.f4, t1.f5, v32, t1.f7⟩ : S47)).bind fun t48 => if t48 = t1.f5.f0 then (some (⟨t1.f0, t1.f1, t1.f2, t1.f3, false, (⟨0, 0, ([] : List S64)⟩ : S44), ([] : List S62), t1.f7⟩ : S47)) else (some (⟨t1.f0, t1.f1, t1.f2, t1.f3, t1.f4, t1.f5, v32, t1.f7⟩ : S47)))
def impl_Onward.f (k : Nat) (a0 : S47) : Option S47 := (impl_copyYard.f k a0).bind fun t1 => if a0.f4 = true then ((impl_jobsOk.f k a0 true).bind fun t2 => if t2 = true then (impl_Onward.l0 k t1 t1.f6 true) else (some t1)) else (some t1)
theorem impl_Onward.go : Callable prog 7 := ⟨_, func7, by kernel_rfl, rfl⟩
theorem impl_Onward.ok (k : Nat) (a0 : S47) (r : S47) (h : impl_Onward.f k a0 = some r) : VCalls prog 7 [.agg (e47 a0)] [.agg (rn47 r)] := by
  unfold impl_Onward.f at h
  refine VCalls.of (fn := f7) (N := 87) func7 rfl rfl (fun w0 => ?_)
  obtain ⟨t1, g1, h⟩ := bindN h
  let C1 := mkCon (impl_copyYard.ok k a0 t1 g1) impl_copyYard.go
  by_cases c2 : a0.f4 = true
  · replace h := ip c2 h
    obtain ⟨t2, g3, h⟩ := bindN h
    let C3 := mkCon (impl_jobsOk.ok k a0 true t2 g3) impl_jobsOk.go
    by_cases c4 : t2 = true
    · replace h := ip c4 h
      have H0 : ∀ (kq : Nat) (v32 : List S62) (v33 : Bool), impl_Onward.l0 kq t1 v32 v33 = some r → AG prog 7 87 [.agg (rn47 r)] w0 (headStk (codeOf f7) 0) (mkFS (impl_Onward.h0T v33 t1 v32) (impl_Onward.h0H v33 t1 v32)) := by
        intro kq
        induction kq with
        | zero => intro v32 v33 h; cases h
        | succ kq ih =>
          intro v32 v33 h
          rw [impl_Onward.l0] at h
          by_cases c130 : v33 = true
          · replace h := ip c130 h
            obtain ⟨t34, g131, h⟩ := bindN h
            let C131 := mkCon (impl_LayerOf.ok kq (⟨t1.f0, t1.f1, t1.f2, t1.f3, t1.f4, t1.f5, v32, t1.f7⟩ : S47) t34 g131) impl_LayerOf.go
            have H1 : ∀ (kq : Nat) (v44 : List S62) (v45 : Int) (v46 : Bool) (x : ((List S62) × Bool)), impl_Onward.l1 kq v32 t1 t34 v44 v45 v46 = some x → AG prog 7 87 [.agg (rn47 r)] w0 (exitStk (codeOf f7) 1) (mkFS (impl_Onward.x1T x t1) (impl_Onward.x1H x t1)) → AG prog 7 87 [.agg (rn47 r)] w0 (headStk (codeOf f7) 1) (mkFS (impl_Onward.h1T v46 t34 v32 v45 t1 v44) (impl_Onward.h1H v46 t34 v32 v45 t1 v44)) := by
              intro kq
              induction kq with
              | zero => intro v44 v45 v46 x h hx; cases h
              | succ kq ih =>
                intro v44 v45 v46 x h hx
                rw [impl_Onward.l1] at h
                by_cases c181 : v45 < (v32.length : Int)
                · replace h := ip c181 h
                  obtain ⟨c182, h⟩ := ifN h
                  obtain ⟨c183, h⟩ := ifN h
                  obtain ⟨c184, h⟩ := ifN h
                  by_cases c185 : (rdD z62 v44 v45).f2 = true
                  · replace h := ip c185 h
                    exact hd func7 [.b true, .dec 41 false, .b false, .fin] (oT c181 (o1 c182 (o1 c183 (o1 c182 (o1 c184 (o1 (bnf c185) (o1 (rfl : false = false) on))))))) (ih v44 (w64 (v45 + 1)) v46 _ h hx)
                  · replace h := iq c185 h
                    by_cases c186 : (rdD z62 v44 v45).f1 = t34
                    · replace h := ip c186 h
                      by_cases c187 : t34 < t1.f5.f0
                      · replace h := ip c187 h
                        obtain ⟨c188, h⟩ := ifN h
                        obtain ⟨c189, h⟩ := ifN h
                        obtain ⟨c190, h⟩ := ifN h
                        obtain ⟨c191, h⟩ := ifN h
                        by_cases c192 : (rdD 0 ((rdD z64 t1.f5.f2 v45).f0) ((rdD z62 v44 v45).f1)) = (rdD 0 ((rdD z64 t1.f5.f2 v45).f0) (w64 ((rdD z62 v44 v45).f1 + 1)))
                        · replace h := ip c192 h
                          exact hd func7 [.b true, .dec 41 true, .dec 47 true, .dec 54 true, .b true, .aft 999999, orow 656 e62 z62 (v44.set v45.toNat (⟨(rdD z62 v44 v45).f0, (w64 ((rdD z62 v44 v45).f1 + 1)), (rdD z62 v44 v45).f2⟩ : S62)), .fin] (oT c181 (o1 c182 (o1 c183 (o1 c182 (o1 c184 (oN c185 (oT c186 (oT c187 (o1 c188 (o1 c189 (o1 c190 (o1 c191 (oT c192 (o1 c182 (o1 c183 (o1 c182 (o1 c183 (o1 (GE.set (e := e62) (d := z62) v44 v45.toNat (⟨(rdD z62 v44 v45).f0, (w64 ((rdD z62 v44 v45).f1 + 1)), (rdD z62 v44 v45).f2⟩ : S62) (lt_toNat c182 c183) rfl) on)))))))))))))))))) (ih (v44.set v45.toNat (⟨(rdD z62 v44 v45).f0, (w64 ((rdD z62 v44 v45).f1 + 1)), (rdD z62 v44 v45).f2⟩ : S62)) (w64 (v45 + 1)) true _ h hx)
                        · replace h := iq c192 h
                          exact hd func7 [.b true, .dec 41 true, .dec 47 true, .dec 54 true, .b false, .fin] (oT c181 (o1 c182 (o1 c183 (o1 c182 (o1 c184 (oN c185 (oT c186 (oT c187 (o1 c188 (o1 c189 (o1 c190 (o1 c191 (oF c192 on))))))))))))) (ih v44 (w64 (v45 + 1)) v46 _ h hx)
                      · replace h := iq c187 h
                        exact hd func7 [.b true, .dec 41 true, .dec 47 true, .dec 54 false, .b false, .fin] (oT c181 (o1 c182 (o1 c183 (o1 c182 (o1 c184 (oN c185 (oT c186 (oF c187 (o1 (rfl : false = false) on))))))))) (ih v44 (w64 (v45 + 1)) v46 _ h hx)
                    · replace h := iq c186 h
                      exact hd func7 [.b true, .dec 41 true, .dec 47 false, .b false, .fin] (oT c181 (o1 c182 (o1 c183 (o1 c182 (o1 c184 (oN c185 (oF c186 (o1 (rfl : false = false) on)))))))) (ih v44 (w64 (v45 + 1)) v46 _ h hx)
                · replace h := iq c181 h
                  cases h
                  exact st func7 [.b false, .fin] (oF c181 on) hx
            obtain ⟨y47, g193, h⟩ := bindN h
            refine hd func7 [.b true, .call C131, .fin] (o1 c130 (oc C131 on)) (H1 kq v32 0 false _ g193 ?_)
            exact hd func7 [.fin] on (ih y47.1 y47.2 h)
          · replace h := iq c130 h
            obtain ⟨t48, g194, h⟩ := bindN h
            let C194 := mkCon (impl_LayerOf.ok kq (⟨t1.f0, t1.f1, t1.f2, t1.f3, t1.f4, t1.f5, v32, t1.f7⟩ : S47) t48 g194) impl_LayerOf.go
            by_cases c195 : t48 = t1.f5.f0
            · replace h := ip c195 h
              cases h
              exact rt func7 [.b false, .fin, .call C194, .b true, .pass impl_ended.pass, .fin, .nilB 128 15 448143 64 1, .toN 448143 3, nrow 448143 S64.f0 (Value.int .i64) z64 0 ([] : List S64), .nilB 128 16 448144 62 3, orow 448144 e62 z62 ([] : List S62)] (o1 (eqf c130) (oc C194 (oT c195 (o1 (rfl : impl_ended.pass.f = impl_ended.pass.f) (o1 (nilG.zero (fun _ => [])) (o1 (GEN.nil S64.f0 (Value.int .i64) z64 0) (o1 (GE.nil e62 z62) on)))))))
            · replace h := iq c195 h
              cases h
              exact rt func7 [.b false, .fin, .call C194, .b false, .fin] (o1 (eqf c130) (oc C194 (oF c195 on)))
      exact hd func7 [.call C1, .dec 14 false, .call C3, .b false, .fin] (oc C1 (o1 (bnf c2) (oc C3 (o1 (bnf c4) on)))) (H0 k t1.f6 true h)
    · replace h := iq c4 h
      cases h
      exact rt func7 [.call C1, .dec 14 false, .call C3, .b true, .fin] (oc C1 (o1 (bnf c2) (oc C3 (oN c4 on))))
  · replace h := iq c2 h
    cases h
    exact rt func7 [.call C1, .dec 14 true, .b true, .fin] (oc C1 (oN c2 (oR on)))

/-! ### laws_eqGrid: function 67 -/
def laws_eqGrid.f (a0 : S37) (a1 : S37) : Option Bool := if a0.f0 = a1.f0 then (if a0.f1 = a1.f1 then (if (a0.f2.toList == a1.f2.toList) = true then (some true) else (some false)) else (some false)) else (some false)
theorem laws_eqGrid.go : Callable prog 67 := ⟨_, func67, by kernel_rfl, rfl⟩
theorem laws_eqGrid.ok (a0 : S37) (a1 : S37) (r : Bool) (h : laws_eqGrid.f a0 a1 = some r) : VCalls prog 67 [.agg (e37 a0), .agg (e37 a1)] [.c (.p (.sc (.bool r)))] := by
  unfold laws_eqGrid.f at h
  refine VCalls.of (fn := f67) (N := 20) func67 rfl rfl (fun w0 => ?_)
  by_cases c1 : a0.f0 = a1.f0
  · replace h := ip c1 h
    by_cases c2 : a0.f1 = a1.f1
    · replace h := ip c2 h
      by_cases c3 : (a0.f2.toList == a1.f2.toList) = true
      · replace h := ip c3 h
        cases h
        exact rt func67 [.b false, .b false, .b false, .fin] (o1 (bnf (decide_eq_true c1)) (o1 (bnf (decide_eq_true c2)) (o1 (bnf c3) on)))
      · replace h := iq c3 h
        cases h
        exact rt func67 [.b false, .b false, .b true, .fin] (o1 (bnf (decide_eq_true c1)) (o1 (bnf (decide_eq_true c2)) (oN c3 on)))
    · replace h := iq c2 h
      cases h
      exact rt func67 [.b false, .b true, .fin] (o1 (bnf (decide_eq_true c1)) (o1 (bnt (decide_eq_false c2)) on))
  · replace h := iq c1 h
    cases h
    exact rt func67 [.b true, .fin] (o1 (bnt (decide_eq_false c1)) on)

/-! ### laws_eqSetup: function 30 -/
def laws_eqSetup.f (a0 : S39) (a1 : S39) : Option Bool := (laws_eqGrid.f a0.f0 a1.f0).bind fun t1 => if t1 = true then (if a0.f1 = a1.f1 then (if a0.f2 = a1.f2 then (if a0.f3 = a1.f3 then (if a0.f4 = a1.f4 then (some true) else (some false)) else (some false)) else (some false)) else (some false)) else (some false)
theorem laws_eqSetup.go : Callable prog 30 := ⟨_, func30, by kernel_rfl, rfl⟩
theorem laws_eqSetup.ok (a0 : S39) (a1 : S39) (r : Bool) (h : laws_eqSetup.f a0 a1 = some r) : VCalls prog 30 [.agg (e39 a0), .agg (e39 a1)] [.c (.p (.sc (.bool r)))] := by
  unfold laws_eqSetup.f at h
  refine VCalls.of (fn := f30) (N := 31) func30 rfl rfl (fun w0 => ?_)
  obtain ⟨t1, g1, h⟩ := bindN h
  let C1 := mkCon (laws_eqGrid.ok a0.f0 a1.f0 t1 g1) laws_eqGrid.go
  by_cases c2 : t1 = true
  · replace h := ip c2 h
    by_cases c3 : a0.f1 = a1.f1
    · replace h := ip c3 h
      by_cases c4 : a0.f2 = a1.f2
      · replace h := ip c4 h
        by_cases c5 : a0.f3 = a1.f3
        · replace h := ip c5 h
          by_cases c6 : a0.f4 = a1.f4
          · replace h := ip c6 h
            cases h
            exact rt func30 [.call C1, .b false, .b false, .b false, .b false, .b false, .fin] (oc C1 (o1 (bnf c2) (o1 (bnf (decide_eq_true c3)) (o1 (bnf (decide_eq_true c4)) (o1 (bnf (decide_eq_true c5)) (o1 (bnf (decide_eq_true c6)) on))))))
          · replace h := iq c6 h
            cases h
            exact rt func30 [.call C1, .b false, .b false, .b false, .b false, .b true, .fin] (oc C1 (o1 (bnf c2) (o1 (bnf (decide_eq_true c3)) (o1 (bnf (decide_eq_true c4)) (o1 (bnf (decide_eq_true c5)) (o1 (bnt (decide_eq_false c6)) on))))))
        · replace h := iq c5 h
          cases h
          exact rt func30 [.call C1, .b false, .b false, .b false, .b true, .fin] (oc C1 (o1 (bnf c2) (o1 (bnf (decide_eq_true c3)) (o1 (bnf (decide_eq_true c4)) (o1 (bnt (decide_eq_false c5)) on)))))
      · replace h := iq c4 h
        cases h
        exact rt func30 [.call C1, .b false, .b false, .b true, .fin] (oc C1 (o1 (bnf c2) (o1 (bnf (decide_eq_true c3)) (o1 (bnt (decide_eq_false c4)) on))))
    · replace h := iq c3 h
      cases h
      exact rt func30 [.call C1, .b false, .b true, .fin] (oc C1 (o1 (bnf c2) (o1 (bnt (decide_eq_false c3)) on)))
  · replace h := iq c2 h
    cases h
    exact rt func30 [.call C1, .b true, .fin] (oc C1 (oN c2 on))

/-! ### laws_eqRobot: function 68 -/
def laws_eqRobot.f (a0 : S90) (a1 : S90) : Option Bool := if a0.f0 = a1.f0 then (if a0.f1 = a1.f1 then (if a0.f2 = a1.f2 then (if (a0.f3 == a1.f3) = true then (some true) else (some false)) else (some false)) else (some false)) else (some false)
theorem laws_eqRobot.go : Callable prog 68 := ⟨_, func68, by kernel_rfl, rfl⟩
theorem laws_eqRobot.ok (a0 : S90) (a1 : S90) (r : Bool) (h : laws_eqRobot.f a0 a1 = some r) : VCalls prog 68 [.agg (e90 a0), .agg (e90 a1)] [.c (.p (.sc (.bool r)))] := by
  unfold laws_eqRobot.f at h
  refine VCalls.of (fn := f68) (N := 25) func68 rfl rfl (fun w0 => ?_)
  by_cases c1 : a0.f0 = a1.f0
  · replace h := ip c1 h
    by_cases c2 : a0.f1 = a1.f1
    · replace h := ip c2 h
      by_cases c3 : a0.f2 = a1.f2
      · replace h := ip c3 h
        by_cases c4 : (a0.f3 == a1.f3) = true
        · replace h := ip c4 h
          cases h
          exact rt func68 [.b false, .b false, .b false, .b false, .fin] (o1 (bnf (decide_eq_true c1)) (o1 (bnf (decide_eq_true c2)) (o1 (bnf (decide_eq_true c3)) (o1 (bnf c4) on))))
        · replace h := iq c4 h
          cases h
          exact rt func68 [.b false, .b false, .b false, .b true, .fin] (o1 (bnf (decide_eq_true c1)) (o1 (bnf (decide_eq_true c2)) (o1 (bnf (decide_eq_true c3)) (oN c4 on))))
      · replace h := iq c3 h
        cases h
        exact rt func68 [.b false, .b false, .b true, .fin] (o1 (bnf (decide_eq_true c1)) (o1 (bnf (decide_eq_true c2)) (o1 (bnt (decide_eq_false c3)) on)))
    · replace h := iq c2 h
      cases h
      exact rt func68 [.b false, .b true, .fin] (o1 (bnf (decide_eq_true c1)) (o1 (bnt (decide_eq_false c2)) on))
  · replace h := iq c1 h
    cases h
    exact rt func68 [.b true, .fin] (o1 (bnt (decide_eq_false c1)) on)

/-! ### laws_eqRobotS: function 31 -/
def laws_eqRobotS.h0T (a0 : List S90) (a1 : List S90) (v2 : Int) : List (Nat × AV) := [(0, .t (.c (.p false (R 4 e90 z90 a0)))), (1, .t (.c (.p false (R 4 e90 z90 a1)))), (5, .t (.c (.p true (iI v2))))]
def laws_eqRobotS.h0H (a0 : List S90) (a1 : List S90) (v2 : Int) : List (Nat × Content) := []
def laws_eqRobotS.l0 : Nat → List S90 → List S90 → Int → Option Bool
  | 0, _, _, _ => none
  | kq + 1, a0, a1, v2 => if v2 < (a0.length : Int) then (if 0 ≤ v2 then (if v2 < (a1.length : Int) then ((laws_eqRobot.f (rdD z90 a0 v2) (rdD z90 a1 v2)).bind fun t3 => if t3 = true then (laws_eqRobotS.l0 kq a0 a1 (w64 (v2 + 1))) else (some false)) else none) else none) else (some true)
def laws_eqRobotS.f (k : Nat) (a0 : List S90) (a1 : List S90) : Option Bool := if (a0.length : Int) = (a1.length : Int) then (laws_eqRobotS.l0 k a0 a1 0) else (some false)
theorem laws_eqRobotS.go : Callable prog 31 := ⟨_, func31, by kernel_rfl, rfl⟩
theorem laws_eqRobotS.ok (k : Nat) (a0 : List S90) (a1 : List S90) (r : Bool) (h : laws_eqRobotS.f k a0 a1 = some r) : VCalls prog 31 [.c (R 4 e90 z90 a0), .c (R 4 e90 z90 a1)] [.c (.p (.sc (.bool r)))] := by
  unfold laws_eqRobotS.f at h
  refine VCalls.of (fn := f31) (N := 27) func31 rfl rfl (fun w0 => ?_)
  by_cases c1 : (a0.length : Int) = (a1.length : Int)
  · replace h := ip c1 h
    have H0 : ∀ (kq : Nat) (v2 : Int), laws_eqRobotS.l0 kq a0 a1 v2 = some r → AG prog 31 27 [.c (.p (.sc (.bool r)))] w0 (headStk (codeOf f31) 0) (mkFS (laws_eqRobotS.h0T a0 a1 v2) (laws_eqRobotS.h0H a0 a1 v2)) := by
      intro kq
      induction kq with
      | zero => intro v2 h; cases h
      | succ kq ih =>
        intro v2 h
        rw [laws_eqRobotS.l0] at h
        by_cases c6 : v2 < (a0.length : Int)
        · replace h := ip c6 h
          obtain ⟨c7, h⟩ := ifN h
          obtain ⟨c8, h⟩ := ifN h
          obtain ⟨t3, g9, h⟩ := bindN h
          let C9 := mkCon (laws_eqRobot.ok (rdD z90 a0 v2) (rdD z90 a1 v2) t3 g9) laws_eqRobot.go
          by_cases c10 : t3 = true
          · replace h := ip c10 h
            exact hd func31 [.b true, .call C9, .b false, .fin] (oT c6 (o1 c7 (o1 c6 (o1 c7 (o1 c8 (oc C9 (o1 (bnf c10) on))))))) (ih (w64 (v2 + 1)) h)
          · replace h := iq c10 h
            cases h
            exact rt func31 [.b true, .call C9, .b true, .fin] (oT c6 (o1 c7 (o1 c6 (o1 c7 (o1 c8 (oc C9 (oN c10 on)))))))
        · replace h := iq c6 h
          cases h
          exact rt func31 [.b false, .fin, .fin] (oF c6 on)
    exact hd func31 [.b false, .fin] (o1 (bnf (decide_eq_true c1)) on) (H0 k 0 h)
  · replace h := iq c1 h
    cases h
    exact rt func31 [.b true, .fin] (o1 (bnt (decide_eq_false c1)) on)

/-! ### laws_eqIntS: function 35 -/
def laws_eqIntS.h0T (a0 : List Int) (a1 : List Int) (v1 : Int) : List (Nat × AV) := [(0, .t (.c (.p false (R 1 (eI .i64) 0 a0)))), (1, .t (.c (.p false (R 1 (eI .i64) 0 a1)))), (5, .t (.c (.p true (iI v1))))]
def laws_eqIntS.h0H (a0 : List Int) (a1 : List Int) (v1 : Int) : List (Nat × Content) := []
def laws_eqIntS.l0 : Nat → List Int → List Int → Int → Option Bool
  | 0, _, _, _ => none
  | kq + 1, a0, a1, v1 => if v1 < (a0.length : Int) then (if 0 ≤ v1 then (if v1 < (a1.length : Int) then (if (rdD 0 a0 v1) = (rdD 0 a1 v1) then (laws_eqIntS.l0 kq a0 a1 (w64 (v1 + 1))) else (some false)) else none) else none) else (some true)
def laws_eqIntS.f (k : Nat) (a0 : List Int) (a1 : List Int) : Option Bool := if (a0.length : Int) = (a1.length : Int) then (laws_eqIntS.l0 k a0 a1 0) else (some false)
theorem laws_eqIntS.go : Callable prog 35 := ⟨_, func35, by kernel_rfl, rfl⟩
theorem laws_eqIntS.ok (k : Nat) (a0 : List Int) (a1 : List Int) (r : Bool) (h : laws_eqIntS.f k a0 a1 = some r) : VCalls prog 35 [.c (R 1 (eI .i64) 0 a0), .c (R 1 (eI .i64) 0 a1)] [.c (.p (.sc (.bool r)))] := by
  unfold laws_eqIntS.f at h
  refine VCalls.of (fn := f35) (N := 26) func35 rfl rfl (fun w0 => ?_)
  by_cases c1 : (a0.length : Int) = (a1.length : Int)
  · replace h := ip c1 h
    have H0 : ∀ (kq : Nat) (v1 : Int), laws_eqIntS.l0 kq a0 a1 v1 = some r → AG prog 35 26 [.c (.p (.sc (.bool r)))] w0 (headStk (codeOf f35) 0) (mkFS (laws_eqIntS.h0T a0 a1 v1) (laws_eqIntS.h0H a0 a1 v1)) := by
      intro kq
      induction kq with
      | zero => intro v1 h; cases h
      | succ kq ih =>
        intro v1 h
        rw [laws_eqIntS.l0] at h
        by_cases c5 : v1 < (a0.length : Int)
        · replace h := ip c5 h
          obtain ⟨c6, h⟩ := ifN h
          obtain ⟨c7, h⟩ := ifN h
          by_cases c8 : (rdD 0 a0 v1) = (rdD 0 a1 v1)
          · replace h := ip c8 h
            exact hd func35 [.b true, .b false, .fin] (oT c5 (o1 c6 (o1 c5 (o1 c6 (o1 c7 (o1 (bnf (decide_eq_true c8)) on)))))) (ih (w64 (v1 + 1)) h)
          · replace h := iq c8 h
            cases h
            exact rt func35 [.b true, .b true, .fin] (oT c5 (o1 c6 (o1 c5 (o1 c6 (o1 c7 (o1 (bnt (decide_eq_false c8)) on))))))
        · replace h := iq c5 h
          cases h
          exact rt func35 [.b false, .fin, .fin] (oF c5 on)
    exact hd func35 [.b false, .fin] (o1 (bnf (decide_eq_true c1)) on) (H0 k 0 h)
  · replace h := iq c1 h
    cases h
    exact rt func35 [.b true, .fin] (o1 (bnt (decide_eq_false c1)) on)

/-! ### laws_eqWindow: function 32 -/
def laws_eqWindow.f (k : Nat) (a0 : S41) (a1 : S41) : Option Bool := if a0.f0 = a1.f0 then (if a0.f1 = a1.f1 then ((laws_eqIntS.f k a0.f2 a1.f2).bind fun t1 => if t1 = true then (some true) else (some false)) else (some false)) else (some false)
theorem laws_eqWindow.go : Callable prog 32 := ⟨_, func32, by kernel_rfl, rfl⟩
theorem laws_eqWindow.ok (k : Nat) (a0 : S41) (a1 : S41) (r : Bool) (h : laws_eqWindow.f k a0 a1 = some r) : VCalls prog 32 [.agg (e41 a0), .agg (e41 a1)] [.c (.p (.sc (.bool r)))] := by
  unfold laws_eqWindow.f at h
  refine VCalls.of (fn := f32) (N := 21) func32 rfl rfl (fun w0 => ?_)
  by_cases c1 : a0.f0 = a1.f0
  · replace h := ip c1 h
    by_cases c2 : a0.f1 = a1.f1
    · replace h := ip c2 h
      obtain ⟨t1, g3, h⟩ := bindN h
      let C3 := mkCon (laws_eqIntS.ok k a0.f2 a1.f2 t1 g3) laws_eqIntS.go
      by_cases c4 : t1 = true
      · replace h := ip c4 h
        cases h
        exact rt func32 [.b false, .b false, .call C3, .b false, .fin] (o1 (bnf (decide_eq_true c1)) (o1 (bnf (decide_eq_true c2)) (oc C3 (o1 (bnf c4) on))))
      · replace h := iq c4 h
        cases h
        exact rt func32 [.b false, .b false, .call C3, .b true, .fin] (o1 (bnf (decide_eq_true c1)) (o1 (bnf (decide_eq_true c2)) (oc C3 (oN c4 on))))
    · replace h := iq c2 h
      cases h
      exact rt func32 [.b false, .b true, .fin] (o1 (bnf (decide_eq_true c1)) (o1 (bnt (decide_eq_false c2)) on))
  · replace h := iq c1 h
    cases h
    exact rt func32 [.b true, .fin] (o1 (bnt (decide_eq_false c1)) on)

/-! ### laws_eqWay: function 80 -/
def laws_eqWay.f (k : Nat) (a0 : S64) (a1 : S64) : Option Bool := (laws_eqIntS.f k a0.f0 a1.f0).bind fun t1 => if t1 = true then (some true) else (some false)
theorem laws_eqWay.go : Callable prog 80 := ⟨_, func80, by kernel_rfl, rfl⟩
theorem laws_eqWay.ok (k : Nat) (a0 : S64) (a1 : S64) (r : Bool) (h : laws_eqWay.f k a0 a1 = some r) : VCalls prog 80 [.agg (e64 a0), .agg (e64 a1)] [.c (.p (.sc (.bool r)))] := by
  unfold laws_eqWay.f at h
  refine VCalls.of (fn := f80) (N := 11) func80 rfl rfl (fun w0 => ?_)
  obtain ⟨t1, g1, h⟩ := bindN h
  let C1 := mkCon (laws_eqIntS.ok k a0.f0 a1.f0 t1 g1) laws_eqIntS.go
  by_cases c2 : t1 = true
  · replace h := ip c2 h
    cases h
    exact rt func80 [.call C1, .b false, .fin] (oc C1 (o1 (bnf c2) on))
  · replace h := iq c2 h
    cases h
    exact rt func80 [.call C1, .b true, .fin] (oc C1 (oN c2 on))

/-! ### laws_eqWayS: function 69 -/
def laws_eqWayS.h0T (a0 : List S64) (a1 : List S64) (v2 : Int) : List (Nat × AV) := [(0, .t (.c (.p false (R 1 e64 z64 a0)))), (1, .t (.c (.p false (R 1 e64 z64 a1)))), (5, .t (.c (.p true (iI v2))))]
def laws_eqWayS.h0H (a0 : List S64) (a1 : List S64) (v2 : Int) : List (Nat × Content) := []
def laws_eqWayS.l0 : Nat → List S64 → List S64 → Int → Option Bool
  | 0, _, _, _ => none
  | kq + 1, a0, a1, v2 => if v2 < (a0.length : Int) then (if 0 ≤ v2 then (if v2 < (a1.length : Int) then ((laws_eqWay.f kq (rdD z64 a0 v2) (rdD z64 a1 v2)).bind fun t3 => if t3 = true then (laws_eqWayS.l0 kq a0 a1 (w64 (v2 + 1))) else (some false)) else none) else none) else (some true)
def laws_eqWayS.f (k : Nat) (a0 : List S64) (a1 : List S64) : Option Bool := if (a0.length : Int) = (a1.length : Int) then (laws_eqWayS.l0 k a0 a1 0) else (some false)
theorem laws_eqWayS.go : Callable prog 69 := ⟨_, func69, by kernel_rfl, rfl⟩
theorem laws_eqWayS.ok (k : Nat) (a0 : List S64) (a1 : List S64) (r : Bool) (h : laws_eqWayS.f k a0 a1 = some r) : VCalls prog 69 [.c (R 1 e64 z64 a0), .c (R 1 e64 z64 a1)] [.c (.p (.sc (.bool r)))] := by
  unfold laws_eqWayS.f at h
  refine VCalls.of (fn := f69) (N := 27) func69 rfl rfl (fun w0 => ?_)
  by_cases c1 : (a0.length : Int) = (a1.length : Int)
  · replace h := ip c1 h
    have H0 : ∀ (kq : Nat) (v2 : Int), laws_eqWayS.l0 kq a0 a1 v2 = some r → AG prog 69 27 [.c (.p (.sc (.bool r)))] w0 (headStk (codeOf f69) 0) (mkFS (laws_eqWayS.h0T a0 a1 v2) (laws_eqWayS.h0H a0 a1 v2)) := by
      intro kq
      induction kq with
      | zero => intro v2 h; cases h
      | succ kq ih =>
        intro v2 h
        rw [laws_eqWayS.l0] at h
        by_cases c6 : v2 < (a0.length : Int)
        · replace h := ip c6 h
          obtain ⟨c7, h⟩ := ifN h
          obtain ⟨c8, h⟩ := ifN h
          obtain ⟨t3, g9, h⟩ := bindN h
          let C9 := mkCon (laws_eqWay.ok kq (rdD z64 a0 v2) (rdD z64 a1 v2) t3 g9) laws_eqWay.go
          by_cases c10 : t3 = true
          · replace h := ip c10 h
            exact hd func69 [.b true, .call C9, .b false, .fin] (oT c6 (o1 c7 (o1 c6 (o1 c7 (o1 c8 (oc C9 (o1 (bnf c10) on))))))) (ih (w64 (v2 + 1)) h)
          · replace h := iq c10 h
            cases h
            exact rt func69 [.b true, .call C9, .b true, .fin] (oT c6 (o1 c7 (o1 c6 (o1 c7 (o1 c8 (oc C9 (oN c10 on)))))))
        · replace h := iq c6 h
          cases h
          exact rt func69 [.b false, .fin, .fin] (oF c6 on)
    exact hd func69 [.b false, .fin] (o1 (bnf (decide_eq_true c1)) on) (H0 k 0 h)
  · replace h := iq c1 h
    cases h
    exact rt func69 [.b true, .fin] (o1 (bnt (decide_eq_false c1)) on)

/-! ### laws_eqPlan: function 33 -/
def laws_eqPlan.f (k : Nat) (a0 : S44) (a1 : S44) : Option Bool := if a0.f0 = a1.f0 then (if a0.f1 = a1.f1 then ((laws_eqWayS.f k a0.f2 a1.f2).bind fun t1 => if t1 = true then (some true) else (some false)) else (some false)) else (some false)
theorem laws_eqPlan.go : Callable prog 33 := ⟨_, func33, by kernel_rfl, rfl⟩
theorem laws_eqPlan.ok (k : Nat) (a0 : S44) (a1 : S44) (r : Bool) (h : laws_eqPlan.f k a0 a1 = some r) : VCalls prog 33 [.agg (e44 a0), .agg (e44 a1)] [.c (.p (.sc (.bool r)))] := by
  unfold laws_eqPlan.f at h
  refine VCalls.of (fn := f33) (N := 21) func33 rfl rfl (fun w0 => ?_)
  by_cases c1 : a0.f0 = a1.f0
  · replace h := ip c1 h
    by_cases c2 : a0.f1 = a1.f1
    · replace h := ip c2 h
      obtain ⟨t1, g3, h⟩ := bindN h
      let C3 := mkCon (laws_eqWayS.ok k a0.f2 a1.f2 t1 g3) laws_eqWayS.go
      by_cases c4 : t1 = true
      · replace h := ip c4 h
        cases h
        exact rt func33 [.b false, .b false, .call C3, .b false, .fin] (o1 (bnf (decide_eq_true c1)) (o1 (bnf (decide_eq_true c2)) (oc C3 (o1 (bnf c4) on))))
      · replace h := iq c4 h
        cases h
        exact rt func33 [.b false, .b false, .call C3, .b true, .fin] (o1 (bnf (decide_eq_true c1)) (o1 (bnf (decide_eq_true c2)) (oc C3 (oN c4 on))))
    · replace h := iq c2 h
      cases h
      exact rt func33 [.b false, .b true, .fin] (o1 (bnf (decide_eq_true c1)) (o1 (bnt (decide_eq_false c2)) on))
  · replace h := iq c1 h
    cases h
    exact rt func33 [.b true, .fin] (o1 (bnt (decide_eq_false c1)) on)

/-! ### laws_eqJob: function 70 -/
def laws_eqJob.f (a0 : S62) (a1 : S62) : Option Bool := if a0.f0 = a1.f0 then (if a0.f1 = a1.f1 then (if (a0.f2 == a1.f2) = true then (some true) else (some false)) else (some false)) else (some false)
theorem laws_eqJob.go : Callable prog 70 := ⟨_, func70, by kernel_rfl, rfl⟩
theorem laws_eqJob.ok (a0 : S62) (a1 : S62) (r : Bool) (h : laws_eqJob.f a0 a1 = some r) : VCalls prog 70 [.agg (e62 a0), .agg (e62 a1)] [.c (.p (.sc (.bool r)))] := by
  unfold laws_eqJob.f at h
  refine VCalls.of (fn := f70) (N := 20) func70 rfl rfl (fun w0 => ?_)
  by_cases c1 : a0.f0 = a1.f0
  · replace h := ip c1 h
    by_cases c2 : a0.f1 = a1.f1
    · replace h := ip c2 h
      by_cases c3 : (a0.f2 == a1.f2) = true
      · replace h := ip c3 h
        cases h
        exact rt func70 [.b false, .b false, .b false, .fin] (o1 (bnf (decide_eq_true c1)) (o1 (bnf (decide_eq_true c2)) (o1 (bnf c3) on)))
      · replace h := iq c3 h
        cases h
        exact rt func70 [.b false, .b false, .b true, .fin] (o1 (bnf (decide_eq_true c1)) (o1 (bnf (decide_eq_true c2)) (oN c3 on)))
    · replace h := iq c2 h
      cases h
      exact rt func70 [.b false, .b true, .fin] (o1 (bnf (decide_eq_true c1)) (o1 (bnt (decide_eq_false c2)) on))
  · replace h := iq c1 h
    cases h
    exact rt func70 [.b true, .fin] (o1 (bnt (decide_eq_false c1)) on)

/-! ### laws_eqJobS: function 34 -/
def laws_eqJobS.h0T (a0 : List S62) (a1 : List S62) (v2 : Int) : List (Nat × AV) := [(0, .t (.c (.p false (R 3 e62 z62 a0)))), (1, .t (.c (.p false (R 3 e62 z62 a1)))), (5, .t (.c (.p true (iI v2))))]
def laws_eqJobS.h0H (a0 : List S62) (a1 : List S62) (v2 : Int) : List (Nat × Content) := []
def laws_eqJobS.l0 : Nat → List S62 → List S62 → Int → Option Bool
  | 0, _, _, _ => none
  | kq + 1, a0, a1, v2 => if v2 < (a0.length : Int) then (if 0 ≤ v2 then (if v2 < (a1.length : Int) then ((laws_eqJob.f (rdD z62 a0 v2) (rdD z62 a1 v2)).bind fun t3 => if t3 = true then (laws_eqJobS.l0 kq a0 a1 (w64 (v2 + 1))) else (some false)) else none) else none) else (some true)
def laws_eqJobS.f (k : Nat) (a0 : List S62) (a1 : List S62) : Option Bool := if (a0.length : Int) = (a1.length : Int) then (laws_eqJobS.l0 k a0 a1 0) else (some false)
theorem laws_eqJobS.go : Callable prog 34 := ⟨_, func34, by kernel_rfl, rfl⟩
theorem laws_eqJobS.ok (k : Nat) (a0 : List S62) (a1 : List S62) (r : Bool) (h : laws_eqJobS.f k a0 a1 = some r) : VCalls prog 34 [.c (R 3 e62 z62 a0), .c (R 3 e62 z62 a1)] [.c (.p (.sc (.bool r)))] := by
  unfold laws_eqJobS.f at h
  refine VCalls.of (fn := f34) (N := 27) func34 rfl rfl (fun w0 => ?_)
  by_cases c1 : (a0.length : Int) = (a1.length : Int)
  · replace h := ip c1 h
    have H0 : ∀ (kq : Nat) (v2 : Int), laws_eqJobS.l0 kq a0 a1 v2 = some r → AG prog 34 27 [.c (.p (.sc (.bool r)))] w0 (headStk (codeOf f34) 0) (mkFS (laws_eqJobS.h0T a0 a1 v2) (laws_eqJobS.h0H a0 a1 v2)) := by
      intro kq
      induction kq with
      | zero => intro v2 h; cases h
      | succ kq ih =>
        intro v2 h
        rw [laws_eqJobS.l0] at h
        by_cases c6 : v2 < (a0.length : Int)
        · replace h := ip c6 h
          obtain ⟨c7, h⟩ := ifN h
          obtain ⟨c8, h⟩ := ifN h
          obtain ⟨t3, g9, h⟩ := bindN h
          let C9 := mkCon (laws_eqJob.ok (rdD z62 a0 v2) (rdD z62 a1 v2) t3 g9) laws_eqJob.go
          by_cases c10 : t3 = true
          · replace h := ip c10 h
            exact hd func34 [.b true, .call C9, .b false, .fin] (oT c6 (o1 c7 (o1 c6 (o1 c7 (o1 c8 (oc C9 (o1 (bnf c10) on))))))) (ih (w64 (v2 + 1)) h)
          · replace h := iq c10 h
            cases h
            exact rt func34 [.b true, .call C9, .b true, .fin] (oT c6 (o1 c7 (o1 c6 (o1 c7 (o1 c8 (oc C9 (oN c10 on)))))))
        · replace h := iq c6 h
          cases h
          exact rt func34 [.b false, .fin, .fin] (oF c6 on)
    exact hd func34 [.b false, .fin] (o1 (bnf (decide_eq_true c1)) on) (H0 k 0 h)
  · replace h := iq c1 h
    cases h
    exact rt func34 [.b true, .fin] (o1 (bnt (decide_eq_false c1)) on)

/-! ### laws_eqYard: function 8 -/
def laws_eqYard.f (k : Nat) (a0 : S47) (a1 : S47) : Option Bool := (laws_eqSetup.f a0.f0 a1.f0).bind fun t1 => if t1 = true then ((laws_eqRobotS.f k a0.f1 a1.f1).bind fun t2 => if t2 = true then ((laws_eqWindow.f k a0.f2 a1.f2).bind fun t3 => if t3 = true then (if a0.f3 = a1.f3 then (if (a0.f4 == a1.f4) = true then ((laws_eqPlan.f k a0.f5 a1.f5).bind fun t4 => if t4 = true then ((laws_eqJobS.f k a0.f6 a1.f6).bind fun t5 => if t5 = true then ((laws_eqIntS.f k a0.f7 a1.f7).bind fun t6 => if t6 = true then (some true) else (some false)) else (some false)) else (some false)) else (some false)) else (some false)) else (some false)) else (some false)) else (some false)
theorem laws_eqYard.go : Callable prog 8 := ⟨_, func8, by kernel_rfl, rfl⟩
theorem laws_eqYard.ok (k : Nat) (a0 : S47) (a1 : S47) (r : Bool) (h : laws_eqYard.f k a0 a1 = some r) : VCalls prog 8 [.agg (e47 a0), .agg (e47 a1)] [.c (.p (.sc (.bool r)))] := by
  unfold laws_eqYard.f at h
  refine VCalls.of (fn := f8) (N := 51) func8 rfl rfl (fun w0 => ?_)
  obtain ⟨t1, g1, h⟩ := bindN h
  let C1 := mkCon (laws_eqSetup.ok a0.f0 a1.f0 t1 g1) laws_eqSetup.go
  by_cases c2 : t1 = true
  · replace h := ip c2 h
    obtain ⟨t2, g3, h⟩ := bindN h
    let C3 := mkCon (laws_eqRobotS.ok k a0.f1 a1.f1 t2 g3) laws_eqRobotS.go
    by_cases c4 : t2 = true
    · replace h := ip c4 h
      obtain ⟨t3, g5, h⟩ := bindN h
      let C5 := mkCon (laws_eqWindow.ok k a0.f2 a1.f2 t3 g5) laws_eqWindow.go
      by_cases c6 : t3 = true
      · replace h := ip c6 h
        by_cases c7 : a0.f3 = a1.f3
        · replace h := ip c7 h
          by_cases c8 : (a0.f4 == a1.f4) = true
          · replace h := ip c8 h
            obtain ⟨t4, g9, h⟩ := bindN h
            let C9 := mkCon (laws_eqPlan.ok k a0.f5 a1.f5 t4 g9) laws_eqPlan.go
            by_cases c10 : t4 = true
            · replace h := ip c10 h
              obtain ⟨t5, g11, h⟩ := bindN h
              let C11 := mkCon (laws_eqJobS.ok k a0.f6 a1.f6 t5 g11) laws_eqJobS.go
              by_cases c12 : t5 = true
              · replace h := ip c12 h
                obtain ⟨t6, g13, h⟩ := bindN h
                let C13 := mkCon (laws_eqIntS.ok k a0.f7 a1.f7 t6 g13) laws_eqIntS.go
                by_cases c14 : t6 = true
                · replace h := ip c14 h
                  cases h
                  exact rt func8 [.call C1, .b false, .call C3, .b false, .call C5, .b false, .b false, .b false, .call C9, .b false, .call C11, .b false, .call C13, .b false, .fin] (oc C1 (o1 (bnf c2) (oc C3 (o1 (bnf c4) (oc C5 (o1 (bnf c6) (o1 (bnf (decide_eq_true c7)) (o1 (bnf c8) (oc C9 (o1 (bnf c10) (oc C11 (o1 (bnf c12) (oc C13 (o1 (bnf c14) on))))))))))))))
                · replace h := iq c14 h
                  cases h
                  exact rt func8 [.call C1, .b false, .call C3, .b false, .call C5, .b false, .b false, .b false, .call C9, .b false, .call C11, .b false, .call C13, .b true, .fin] (oc C1 (o1 (bnf c2) (oc C3 (o1 (bnf c4) (oc C5 (o1 (bnf c6) (o1 (bnf (decide_eq_true c7)) (o1 (bnf c8) (oc C9 (o1 (bnf c10) (oc C11 (o1 (bnf c12) (oc C13 (oN c14 on))))))))))))))
              · replace h := iq c12 h
                cases h
                exact rt func8 [.call C1, .b false, .call C3, .b false, .call C5, .b false, .b false, .b false, .call C9, .b false, .call C11, .b true, .fin] (oc C1 (o1 (bnf c2) (oc C3 (o1 (bnf c4) (oc C5 (o1 (bnf c6) (o1 (bnf (decide_eq_true c7)) (o1 (bnf c8) (oc C9 (o1 (bnf c10) (oc C11 (oN c12 on))))))))))))
            · replace h := iq c10 h
              cases h
              exact rt func8 [.call C1, .b false, .call C3, .b false, .call C5, .b false, .b false, .b false, .call C9, .b true, .fin] (oc C1 (o1 (bnf c2) (oc C3 (o1 (bnf c4) (oc C5 (o1 (bnf c6) (o1 (bnf (decide_eq_true c7)) (o1 (bnf c8) (oc C9 (oN c10 on))))))))))
          · replace h := iq c8 h
            cases h
            exact rt func8 [.call C1, .b false, .call C3, .b false, .call C5, .b false, .b false, .b true, .fin] (oc C1 (o1 (bnf c2) (oc C3 (o1 (bnf c4) (oc C5 (o1 (bnf c6) (o1 (bnf (decide_eq_true c7)) (oN c8 on))))))))
        · replace h := iq c7 h
          cases h
          exact rt func8 [.call C1, .b false, .call C3, .b false, .call C5, .b false, .b true, .fin] (oc C1 (o1 (bnf c2) (oc C3 (o1 (bnf c4) (oc C5 (o1 (bnf c6) (o1 (bnt (decide_eq_false c7)) on)))))))
      · replace h := iq c6 h
        cases h
        exact rt func8 [.call C1, .b false, .call C3, .b false, .call C5, .b true, .fin] (oc C1 (o1 (bnf c2) (oc C3 (o1 (bnf c4) (oc C5 (oN c6 on))))))
    · replace h := iq c4 h
      cases h
      exact rt func8 [.call C1, .b false, .call C3, .b true, .fin] (oc C1 (o1 (bnf c2) (oc C3 (oN c4 on))))
  · replace h := iq c2 h
    cases h
    exact rt func8 [.call C1, .b true, .fin] (oc C1 (oN c2 on))

/-! ### laws_markRobotS: function 36 -/
def laws_markRobotS.h0T (xw : Nat → Value) (v5 : Int) (v6 : Int) (v4 : List S90) : List (Nat × AV) := [(0, .t (.c (.hv 0 (xw 0)))), (1, .t (.c (.p false (iI v5)))), (5, .t (.c (.p true (iI v6))))]
def laws_markRobotS.h0H (xw : Nat → Value) (v5 : Int) (v6 : Int) (v4 : List S90) : List (Nat × Content) := [(0, .row 90 4 v4.length (fun j => e90 (v4.getD j z90)) true)]
def laws_markRobotS.l0 : Nat → List S90 → Int → Int → Option (Int × List S90)
  | 0, _, _, _ => none
  | kq + 1, v4, v5, v6 => if v6 < (v4.length : Int) then (if 0 ≤ v6 then (laws_markRobotS.l0 kq  (v4.set v6.toNat (⟨v5, (w64 (v5 + 1)), (w64 ((w64 (v5 + 1)) + 1)), (decide (((w64 ((w64 ((w64 (v5 + 1)) + 1)) + 1)).tmod 3) = 0))⟩ : S90)) (w64 ((w64 ((w64 ((w64 (v5 + 1)) + 1)) + 1)) + 1)) (w64 (v6 + 1))) else none) else (some (v5, v4))
def laws_markRobotS.f (k : Nat) (a0 : List S90) (a1 : Int) : Option (Int × List S90) := laws_markRobotS.l0 k  a0 a1 0
theorem laws_markRobotS.go : Callable prog 36 := ⟨_, func36, by kernel_rfl, rfl⟩
def laws_markRobotS.cin (a0 : List S90) : List (Nat × Content) := [(0, .row 90 4 a0.length (fun j => e90 (a0.getD j z90)) true)]
def laws_markRobotS.cout (r : Int × List S90) : List (Nat × Content) := [(0, .row 90 4 r.2.length (fun j => e90 (r.2.getD j z90)) true)]
theorem laws_markRobotS.flat (r : Int × List S90) : ∀ p ∈ laws_markRobotS.cout r, flatP p.2 := (flatP_cons (SC.of (e := e90) (d := z90) r.2 (by intro x; rfl)) flatP_nil)
theorem laws_markRobotS.okW (k : Nat) (a0 : List S90) (a1 : Int) (r : Int × List S90) (h : laws_markRobotS.f k a0 a1 = some r) : WOk prog 36 [.t (.c (.h 0)), .t (.c (.p false (iI a1)))] (laws_markRobotS.cin a0) (laws_markRobotS.cout r) (.int .i64 r.1) := by
  unfold laws_markRobotS.f at h
  refine WOk.of (fn := f36) (N := 43) func36 rfl rfl rfl rfl rfl (laws_markRobotS.flat r) (fun w0 xw hB hQ => ?_)
  have H0 : ∀ (kq : Nat) (v4 : List S90) (v5 : Int) (v6 : Int), laws_markRobotS.l0 kq  v4 v5 v6 = some r → AG prog 36 43 [.c (.p (iI r.1))] w0 (headStk (codeOf f36) 0) (mkFS (laws_markRobotS.h0T xw v5 v6 v4) (laws_markRobotS.h0H xw v5 v6 v4)) := by
    intro kq
    induction kq with
    | zero => intro v4 v5 v6 h; cases h
    | succ kq ih =>
      intro v4 v5 v6 h
      rw [laws_markRobotS.l0] at h
      by_cases c5 : v6 < (v4.length : Int)
      · replace h := ip c5 h
        obtain ⟨c6, h⟩ := ifN h
        exact hd func36 [.b true, .aft 999999, orow 0 e90 z90 (v4.set v6.toNat (⟨v5, (rdD z90 v4 v6).f1, (rdD z90 v4 v6).f2, (rdD z90 v4 v6).f3⟩ : S90)), .aft 999999, orow 0 e90 z90 (v4.set v6.toNat (⟨v5, (w64 (v5 + 1)), (rdD z90 v4 v6).f2, (rdD z90 v4 v6).f3⟩ : S90)), .aft 999999, orow 0 e90 z90 (v4.set v6.toNat (⟨v5, (w64 (v5 + 1)), (w64 ((w64 (v5 + 1)) + 1)), (rdD z90 v4 v6).f3⟩ : S90)), .aft 999999, orow 0 e90 z90 (v4.set v6.toNat (⟨v5, (w64 (v5 + 1)), (w64 ((w64 (v5 + 1)) + 1)), (decide (((w64 ((w64 ((w64 (v5 + 1)) + 1)) + 1)).tmod 3) = 0))⟩ : S90)), .fin] (oT c5 (o1 c6 (o1 c5 (o1 (GE.set (e := e90) (d := z90) v4 v6.toNat (⟨v5, (rdD z90 v4 v6).f1, (rdD z90 v4 v6).f2, (rdD z90 v4 v6).f3⟩ : S90) (lt_toNat c6 c5) rfl) (o1 c6 (o1 (lt_set (k := v6.toNat) (v := (⟨v5, (rdD z90 v4 v6).f1, (rdD z90 v4 v6).f2, (rdD z90 v4 v6).f3⟩ : S90)) c5) (o1 (GE.set2 (e := e90) (d := z90) v4 v6.toNat (⟨v5, (rdD z90 v4 v6).f1, (rdD z90 v4 v6).f2, (rdD z90 v4 v6).f3⟩ : S90) (⟨v5, (w64 (v5 + 1)), (rdD z90 v4 v6).f2, (rdD z90 v4 v6).f3⟩ : S90) (lt_toNat c6 c5) (f := fun u => splice u 1 [.sc (.int .i64 (w64 (v5 + 1)))]) rfl) (o1 c6 (o1 (lt_set (k := v6.toNat) (v := (⟨v5, (w64 (v5 + 1)), (rdD z90 v4 v6).f2, (rdD z90 v4 v6).f3⟩ : S90)) c5) (o1 (GE.set2 (e := e90) (d := z90) v4 v6.toNat (⟨v5, (w64 (v5 + 1)), (rdD z90 v4 v6).f2, (rdD z90 v4 v6).f3⟩ : S90) (⟨v5, (w64 (v5 + 1)), (w64 ((w64 (v5 + 1)) + 1)), (rdD z90 v4 v6).f3⟩ : S90) (lt_toNat c6 c5) (f := fun u => splice u 2 [.sc (.int .i64 (w64 ((w64 (v5 + 1)) + 1)))]) rfl) (o1 (by decide : (3 : Int) ≠ 0) (o1 c6 (o1 (lt_set (k := v6.toNat) (v := (⟨v5, (w64 (v5 + 1)), (w64 ((w64 (v5 + 1)) + 1)), (rdD z90 v4 v6).f3⟩ : S90)) c5) (o1 (GE.set2 (e := e90) (d := z90) v4 v6.toNat (⟨v5, (w64 (v5 + 1)), (w64 ((w64 (v5 + 1)) + 1)), (rdD z90 v4 v6).f3⟩ : S90) (⟨v5, (w64 (v5 + 1)), (w64 ((w64 (v5 + 1)) + 1)), (decide (((w64 ((w64 ((w64 (v5 + 1)) + 1)) + 1)).tmod 3) = 0))⟩ : S90) (lt_toNat c6 c5) (f := fun u => splice u 3 [.sc (.bool (decide (((w64 ((w64 ((w64 (v5 + 1)) + 1)) + 1)).tmod 3) = 0)))]) rfl) on)))))))))))))) (ih (v4.set v6.toNat (⟨v5, (w64 (v5 + 1)), (w64 ((w64 (v5 + 1)) + 1)), (decide (((w64 ((w64 ((w64 (v5 + 1)) + 1)) + 1)).tmod 3) = 0))⟩ : S90)) (w64 ((w64 ((w64 ((w64 (v5 + 1)) + 1)) + 1)) + 1)) (w64 (v6 + 1)) h)
      · replace h := iq c5 h
        cases h
        exact byRetW MX func36 hB hQ (laws_markRobotS.flat _) (T := [(0, .t (.c (.hv 0 (xw 0))))]) rfl 1000 [.b false, .fin, .fin] (oF c5 on) (by kernel_rfl)
  exact hd func36 [.fin] on (H0 k a0 a1 0 h)
def laws_markRobotS.con (k : Nat) (a0 : List S90) (a1 : Int) (r : Int × List S90) (h : laws_markRobotS.f k a0 a1 = some r) : WCon prog := ⟨36, [.t (.c (.h 0)), .t (.c (.p false (iI a1)))], laws_markRobotS.cin a0, laws_markRobotS.cout r, .int .i64 r.1, rfl, laws_markRobotS.okW k a0 a1 r h, laws_markRobotS.go⟩

/-! ### laws_markIntS: function 40 -/
def laws_markIntS.h0T (xw : Nat → Value) (v5 : Int) (v6 : Int) (v4 : List Int) : List (Nat × AV) := [(0, .t (.c (.hv 0 (xw 0)))), (1, .t (.c (.p false (iI v5)))), (5, .t (.c (.p true (iI v6))))]
def laws_markIntS.h0H (xw : Nat → Value) (v5 : Int) (v6 : Int) (v4 : List Int) : List (Nat × Content) := [(0, .row 3 1 v4.length (fun j => (eI .i64) (v4.getD j 0)) true)]
def laws_markIntS.l0 : Nat → List Int → Int → Int → Option (Int × List Int)
  | 0, _, _, _ => none
  | kq + 1, v4, v5, v6 => if v6 < (v4.length : Int) then (if 0 ≤ v6 then (laws_markIntS.l0 kq  (v4.set v6.toNat v5) (w64 (v5 + 1)) (w64 (v6 + 1))) else none) else (some (v5, v4))
def laws_markIntS.f (k : Nat) (a0 : List Int) (a1 : Int) : Option (Int × List Int) := laws_markIntS.l0 k  a0 a1 0
theorem laws_markIntS.go : Callable prog 40 := ⟨_, func40, by kernel_rfl, rfl⟩
def laws_markIntS.cin (a0 : List Int) : List (Nat × Content) := [(0, .row 3 1 a0.length (fun j => (eI .i64) (a0.getD j 0)) true)]
def laws_markIntS.cout (r : Int × List Int) : List (Nat × Content) := [(0, .row 3 1 r.2.length (fun j => (eI .i64) (r.2.getD j 0)) true)]
theorem laws_markIntS.flat (r : Int × List Int) : ∀ p ∈ laws_markIntS.cout r, flatP p.2 := (flatP_cons (SC.of (e := (eI .i64)) (d := 0) r.2 (by intro x; rfl)) flatP_nil)
theorem laws_markIntS.okW (k : Nat) (a0 : List Int) (a1 : Int) (r : Int × List Int) (h : laws_markIntS.f k a0 a1 = some r) : WOk prog 40 [.t (.c (.h 0)), .t (.c (.p false (iI a1)))] (laws_markIntS.cin a0) (laws_markIntS.cout r) (.int .i64 r.1) := by
  unfold laws_markIntS.f at h
  refine WOk.of (fn := f40) (N := 19) func40 rfl rfl rfl rfl rfl (laws_markIntS.flat r) (fun w0 xw hB hQ => ?_)
  have H0 : ∀ (kq : Nat) (v4 : List Int) (v5 : Int) (v6 : Int), laws_markIntS.l0 kq  v4 v5 v6 = some r → AG prog 40 19 [.c (.p (iI r.1))] w0 (headStk (codeOf f40) 0) (mkFS (laws_markIntS.h0T xw v5 v6 v4) (laws_markIntS.h0H xw v5 v6 v4)) := by
    intro kq
    induction kq with
    | zero => intro v4 v5 v6 h; cases h
    | succ kq ih =>
      intro v4 v5 v6 h
      rw [laws_markIntS.l0] at h
      by_cases c5 : v6 < (v4.length : Int)
      · replace h := ip c5 h
        obtain ⟨c6, h⟩ := ifN h
        exact hd func40 [.b true, .aft 999999, orow 0 (eI .i64) 0 (v4.set v6.toNat v5), .fin] (oT c5 (o1 c6 (o1 c5 (o1 (GE.set (e := (eI .i64)) (d := 0) v4 v6.toNat v5 (lt_toNat c6 c5) rfl) on)))) (ih (v4.set v6.toNat v5) (w64 (v5 + 1)) (w64 (v6 + 1)) h)
      · replace h := iq c5 h
        cases h
        exact byRetW MX func40 hB hQ (laws_markIntS.flat _) (T := [(0, .t (.c (.hv 0 (xw 0))))]) rfl 1000 [.b false, .fin, .fin] (oF c5 on) (by kernel_rfl)
  exact hd func40 [.fin] on (H0 k a0 a1 0 h)
def laws_markIntS.con (k : Nat) (a0 : List Int) (a1 : Int) (r : Int × List Int) (h : laws_markIntS.f k a0 a1 = some r) : WCon prog := ⟨40, [.t (.c (.h 0)), .t (.c (.p false (iI a1)))], laws_markIntS.cin a0, laws_markIntS.cout r, .int .i64 r.1, rfl, laws_markIntS.okW k a0 a1 r h, laws_markIntS.go⟩

/-! ### laws_markWindow: function 37 -/
def laws_markWindow.f (k : Nat) (a0 : S41) (a1 : Int) : Option (Int × List Int) := (laws_markIntS.f k a0.f2 a1).bind fun t1 => some (t1.1, t1.2)
theorem laws_markWindow.go : Callable prog 37 := ⟨_, func37, by kernel_rfl, rfl⟩
def laws_markWindow.cin (a0 : S41) : List (Nat × Content) := [(2, .row 3 1 a0.f2.length (fun j => (eI .i64) (a0.f2.getD j 0)) true)]
def laws_markWindow.cout (r : Int × List Int) : List (Nat × Content) := [(2, .row 3 1 r.2.length (fun j => (eI .i64) (r.2.getD j 0)) true)]
theorem laws_markWindow.flat (r : Int × List Int) : ∀ p ∈ laws_markWindow.cout r, flatP p.2 := (flatP_cons (SC.of (e := (eI .i64)) (d := 0) r.2 (by intro x; rfl)) flatP_nil)
theorem laws_markWindow.okW (k : Nat) (a0 : S41) (a1 : Int) (r : Int × List Int) (h : laws_markWindow.f k a0 a1 = some r) : WOk prog 37 [.t (.agg [.p false (iI a0.f0), .p false (iI a0.f1), .h 2]), .t (.c (.p false (iI a1)))] (laws_markWindow.cin a0) (laws_markWindow.cout r) (.int .i64 r.1) := by
  unfold laws_markWindow.f at h
  refine WOk.of (fn := f37) (N := 10) func37 rfl rfl rfl rfl rfl (laws_markWindow.flat r) (fun w0 xw hB hQ => ?_)
  obtain ⟨t1, g1, h⟩ := bindN h
  let C1 := laws_markIntS.con k a0.f2 a1 t1 g1
  cases h
  exact byRetW MX func37 hB hQ (laws_markWindow.flat _) (T := [(0, .t (.agg [.p false (iI a0.f0), .p false (iI a0.f1), .hv 2 (xw 2)]))]) rfl 1000 [.callW C1 [(0, 2)], .fin] (oa (scw_ C1) on) (by kernel_rfl)
def laws_markWindow.con (k : Nat) (a0 : S41) (a1 : Int) (r : Int × List Int) (h : laws_markWindow.f k a0 a1 = some r) : WCon prog := ⟨37, [.t (.agg [.p false (iI a0.f0), .p false (iI a0.f1), .h 2]), .t (.c (.p false (iI a1)))], laws_markWindow.cin a0, laws_markWindow.cout r, .int .i64 r.1, rfl, laws_markWindow.okW k a0 a1 r h, laws_markWindow.go⟩

/-! ### laws_markWayS: function 71 -/
def laws_markWayS.h0T (xw : Nat → Value) (v8 : Int) (v9 : Int) (v7 : List S64) : List (Nat × AV) := [(0, .t (.c (.hv 0 (xw 0)))), (1, .t (.c (.p false (iI v8)))), (5, .t (.c (.p true (iI v9))))]
def laws_markWayS.h0H (xw : Nat → Value) (v8 : Int) (v9 : Int) (v7 : List S64) : List (Nat × Content) := [(0, NC 64 3 S64.f0 (Value.int .i64) z64 0 v7)]
def laws_markWayS.l0 : Nat → List S64 → Int → Int → Option (Int × List S64)
  | 0, _, _, _ => none
  | kq + 1, v7, v8, v9 => if v9 < (v7.length : Int) then (if 0 ≤ v9 then ((laws_markIntS.f kq ((v7.getD v9.toNat z64).f0) v8).bind fun t10 => laws_markWayS.l0 kq  (v7.set v9.toNat (⟨t10.2⟩ : S64)) t10.1 (w64 (v9 + 1))) else none) else (some (v8, v7))
def laws_markWayS.f (k : Nat) (a0 : List S64) (a1 : Int) : Option (Int × List S64) := laws_markWayS.l0 k  a0 a1 0
theorem laws_markWayS.go : Callable prog 71 := ⟨_, func71, by kernel_rfl, rfl⟩
def laws_markWayS.cin (a0 : List S64) : List (Nat × Content) := [(0, NC 64 3 S64.f0 (Value.int .i64) z64 0 a0)]
def laws_markWayS.cout (r : Int × List S64) : List (Nat × Content) := [(0, NC 64 3 S64.f0 (Value.int .i64) z64 0 r.2)]
theorem laws_markWayS.flat (r : Int × List S64) : ∀ p ∈ laws_markWayS.cout r, flatP p.2 := (flatP_cons trivial flatP_nil)
theorem laws_markWayS.okW (k : Nat) (a0 : List S64) (a1 : Int) (r : Int × List S64) (h : laws_markWayS.f k a0 a1 = some r) : WOk prog 71 [.t (.c (.hn 0)), .t (.c (.p false (iI a1)))] (laws_markWayS.cin a0) (laws_markWayS.cout r) (.int .i64 r.1) := by
  unfold laws_markWayS.f at h
  refine WOk.of (fn := f71) (N := 20) func71 rfl rfl rfl rfl rfl (laws_markWayS.flat r) (fun w0 xw hB hQ => ?_)
  have H0 : ∀ (kq : Nat) (v7 : List S64) (v8 : Int) (v9 : Int), laws_markWayS.l0 kq  v7 v8 v9 = some r → AG prog 71 20 [.c (.p (iI r.1))] w0 (headStk (codeOf f71) 0) (mkFS (laws_markWayS.h0T xw v8 v9 v7) (laws_markWayS.h0H xw v8 v9 v7)) := by
    intro kq
    induction kq with
    | zero => intro v7 v8 v9 h; cases h
    | succ kq ih =>
      intro v7 v8 v9 h
      rw [laws_markWayS.l0] at h
      by_cases c8 : v9 < (v7.length : Int)
      · replace h := ip c8 h
        obtain ⟨c9, h⟩ := ifN h
        obtain ⟨t10, g10, h⟩ := bindN h
        let C10 := laws_markIntS.con kq ((v7.getD v9.toNat z64).f0) v8 t10 g10
        exact hd func71 [.b true, .callI C10, .aft 18, nrow 0 S64.f0 (Value.int .i64) z64 0 (v7.set v9.toNat (⟨t10.2⟩ : S64)), .fin] (oT c8 (o1 c9 (o1 c8 (o1 (rfl : C10.f = C10.f) (o1 (rfl : List.length ((v7.getD v9.toNat z64).f0) = List.length ((v7.getD v9.toNat z64).f0)) (o1 (innerEq (Value.int .i64) 0 ((v7.getD v9.toNat z64).f0)) (o1 (SC.of (e := (eI .i64)) (d := 0) t10.2 (by intro x; rfl)) (o1 (VE.refl (iI v8)) (o1 (GEN.set S64.f0 (Value.int .i64) z64 0 v7 v9.toNat (⟨t10.2⟩ : S64) (lt_toNat c9 c8) rfl (fun _ => rfl)) on))))))))) (ih (v7.set v9.toNat (⟨t10.2⟩ : S64)) t10.1 (w64 (v9 + 1)) h)
      · replace h := iq c8 h
        cases h
        exact byRetW MX func71 hB hQ (laws_markWayS.flat _) (T := [(0, .t (.c (.hv 0 (xw 0))))]) rfl 1000 [.b false, .fin, .fin] (oF c8 on) (by kernel_rfl)
  exact hd func71 [.fin] on (H0 k a0 a1 0 h)
def laws_markWayS.con (k : Nat) (a0 : List S64) (a1 : Int) (r : Int × List S64) (h : laws_markWayS.f k a0 a1 = some r) : WCon prog := ⟨71, [.t (.c (.hn 0)), .t (.c (.p false (iI a1)))], laws_markWayS.cin a0, laws_markWayS.cout r, .int .i64 r.1, rfl, laws_markWayS.okW k a0 a1 r h, laws_markWayS.go⟩

/-! ### laws_markPlan: function 38 -/
def laws_markPlan.f (k : Nat) (a0 : S44) (a1 : Int) : Option (Int × List S64) := (laws_markWayS.f k a0.f2 a1).bind fun t1 => some (t1.1, t1.2)
theorem laws_markPlan.go : Callable prog 38 := ⟨_, func38, by kernel_rfl, rfl⟩
def laws_markPlan.cin (a0 : S44) : List (Nat × Content) := [(2, NC 64 3 S64.f0 (Value.int .i64) z64 0 a0.f2)]
def laws_markPlan.cout (r : Int × List S64) : List (Nat × Content) := [(2, NC 64 3 S64.f0 (Value.int .i64) z64 0 r.2)]
theorem laws_markPlan.flat (r : Int × List S64) : ∀ p ∈ laws_markPlan.cout r, flatP p.2 := (flatP_cons trivial flatP_nil)
theorem laws_markPlan.okW (k : Nat) (a0 : S44) (a1 : Int) (r : Int × List S64) (h : laws_markPlan.f k a0 a1 = some r) : WOk prog 38 [.t (.agg [.p false (iI a0.f0), .p false (iI a0.f1), .hn 2]), .t (.c (.p false (iI a1)))] (laws_markPlan.cin a0) (laws_markPlan.cout r) (.int .i64 r.1) := by
  unfold laws_markPlan.f at h
  refine WOk.of (fn := f38) (N := 10) func38 rfl rfl rfl rfl rfl (laws_markPlan.flat r) (fun w0 xw hB hQ => ?_)
  obtain ⟨t1, g1, h⟩ := bindN h
  let C1 := laws_markWayS.con k a0.f2 a1 t1 g1
  cases h
  exact byRetW MX func38 hB hQ (laws_markPlan.flat _) (T := [(0, .t (.agg [.p false (iI a0.f0), .p false (iI a0.f1), .hv 2 (xw 2)]))]) rfl 1000 [.callW C1 [(0, 2)], .fin] (oa (scw_ C1) on) (by kernel_rfl)
def laws_markPlan.con (k : Nat) (a0 : S44) (a1 : Int) (r : Int × List S64) (h : laws_markPlan.f k a0 a1 = some r) : WCon prog := ⟨38, [.t (.agg [.p false (iI a0.f0), .p false (iI a0.f1), .hn 2]), .t (.c (.p false (iI a1)))], laws_markPlan.cin a0, laws_markPlan.cout r, .int .i64 r.1, rfl, laws_markPlan.okW k a0 a1 r h, laws_markPlan.go⟩

/-! ### laws_markJobS: function 39 -/
def laws_markJobS.h0T (xw : Nat → Value) (v5 : Int) (v6 : Int) (v4 : List S62) : List (Nat × AV) := [(0, .t (.c (.hv 0 (xw 0)))), (1, .t (.c (.p false (iI v5)))), (5, .t (.c (.p true (iI v6))))]
def laws_markJobS.h0H (xw : Nat → Value) (v5 : Int) (v6 : Int) (v4 : List S62) : List (Nat × Content) := [(0, .row 62 3 v4.length (fun j => e62 (v4.getD j z62)) true)]
def laws_markJobS.l0 : Nat → List S62 → Int → Int → Option (Int × List S62)
  | 0, _, _, _ => none
  | kq + 1, v4, v5, v6 => if v6 < (v4.length : Int) then (if 0 ≤ v6 then (laws_markJobS.l0 kq  (v4.set v6.toNat (⟨v5, (w64 (v5 + 1)), (decide (((w64 ((w64 (v5 + 1)) + 1)).tmod 3) = 0))⟩ : S62)) (w64 ((w64 ((w64 (v5 + 1)) + 1)) + 1)) (w64 (v6 + 1))) else none) else (some (v5, v4))
def laws_markJobS.f (k : Nat) (a0 : List S62) (a1 : Int) : Option (Int × List S62) := laws_markJobS.l0 k  a0 a1 0
theorem laws_markJobS.go : Callable prog 39 := ⟨_, func39, by kernel_rfl, rfl⟩
def laws_markJobS.cin (a0 : List S62) : List (Nat × Content) := [(0, .row 62 3 a0.length (fun j => e62 (a0.getD j z62)) true)]
def laws_markJobS.cout (r : Int × List S62) : List (Nat × Content) := [(0, .row 62 3 r.2.length (fun j => e62 (r.2.getD j z62)) true)]
theorem laws_markJobS.flat (r : Int × List S62) : ∀ p ∈ laws_markJobS.cout r, flatP p.2 := (flatP_cons (SC.of (e := e62) (d := z62) r.2 (by intro x; rfl)) flatP_nil)
theorem laws_markJobS.okW (k : Nat) (a0 : List S62) (a1 : Int) (r : Int × List S62) (h : laws_markJobS.f k a0 a1 = some r) : WOk prog 39 [.t (.c (.h 0)), .t (.c (.p false (iI a1)))] (laws_markJobS.cin a0) (laws_markJobS.cout r) (.int .i64 r.1) := by
  unfold laws_markJobS.f at h
  refine WOk.of (fn := f39) (N := 36) func39 rfl rfl rfl rfl rfl (laws_markJobS.flat r) (fun w0 xw hB hQ => ?_)
  have H0 : ∀ (kq : Nat) (v4 : List S62) (v5 : Int) (v6 : Int), laws_markJobS.l0 kq  v4 v5 v6 = some r → AG prog 39 36 [.c (.p (iI r.1))] w0 (headStk (codeOf f39) 0) (mkFS (laws_markJobS.h0T xw v5 v6 v4) (laws_markJobS.h0H xw v5 v6 v4)) := by
    intro kq
    induction kq with
    | zero => intro v4 v5 v6 h; cases h
    | succ kq ih =>
      intro v4 v5 v6 h
      rw [laws_markJobS.l0] at h
      by_cases c5 : v6 < (v4.length : Int)
      · replace h := ip c5 h
        obtain ⟨c6, h⟩ := ifN h
        exact hd func39 [.b true, .aft 999999, orow 0 e62 z62 (v4.set v6.toNat (⟨v5, (rdD z62 v4 v6).f1, (rdD z62 v4 v6).f2⟩ : S62)), .aft 999999, orow 0 e62 z62 (v4.set v6.toNat (⟨v5, (w64 (v5 + 1)), (rdD z62 v4 v6).f2⟩ : S62)), .aft 999999, orow 0 e62 z62 (v4.set v6.toNat (⟨v5, (w64 (v5 + 1)), (decide (((w64 ((w64 (v5 + 1)) + 1)).tmod 3) = 0))⟩ : S62)), .fin] (oT c5 (o1 c6 (o1 c5 (o1 (GE.set (e := e62) (d := z62) v4 v6.toNat (⟨v5, (rdD z62 v4 v6).f1, (rdD z62 v4 v6).f2⟩ : S62) (lt_toNat c6 c5) rfl) (o1 c6 (o1 (lt_set (k := v6.toNat) (v := (⟨v5, (rdD z62 v4 v6).f1, (rdD z62 v4 v6).f2⟩ : S62)) c5) (o1 (GE.set2 (e := e62) (d := z62) v4 v6.toNat (⟨v5, (rdD z62 v4 v6).f1, (rdD z62 v4 v6).f2⟩ : S62) (⟨v5, (w64 (v5 + 1)), (rdD z62 v4 v6).f2⟩ : S62) (lt_toNat c6 c5) (f := fun u => splice u 1 [.sc (.int .i64 (w64 (v5 + 1)))]) rfl) (o1 (by decide : (3 : Int) ≠ 0) (o1 c6 (o1 (lt_set (k := v6.toNat) (v := (⟨v5, (w64 (v5 + 1)), (rdD z62 v4 v6).f2⟩ : S62)) c5) (o1 (GE.set2 (e := e62) (d := z62) v4 v6.toNat (⟨v5, (w64 (v5 + 1)), (rdD z62 v4 v6).f2⟩ : S62) (⟨v5, (w64 (v5 + 1)), (decide (((w64 ((w64 (v5 + 1)) + 1)).tmod 3) = 0))⟩ : S62) (lt_toNat c6 c5) (f := fun u => splice u 2 [.sc (.bool (decide (((w64 ((w64 (v5 + 1)) + 1)).tmod 3) = 0)))]) rfl) on))))))))))) (ih (v4.set v6.toNat (⟨v5, (w64 (v5 + 1)), (decide (((w64 ((w64 (v5 + 1)) + 1)).tmod 3) = 0))⟩ : S62)) (w64 ((w64 ((w64 (v5 + 1)) + 1)) + 1)) (w64 (v6 + 1)) h)
      · replace h := iq c5 h
        cases h
        exact byRetW MX func39 hB hQ (laws_markJobS.flat _) (T := [(0, .t (.c (.hv 0 (xw 0))))]) rfl 1000 [.b false, .fin, .fin] (oF c5 on) (by kernel_rfl)
  exact hd func39 [.fin] on (H0 k a0 a1 0 h)
def laws_markJobS.con (k : Nat) (a0 : List S62) (a1 : Int) (r : Int × List S62) (h : laws_markJobS.f k a0 a1 = some r) : WCon prog := ⟨39, [.t (.c (.h 0)), .t (.c (.p false (iI a1)))], laws_markJobS.cin a0, laws_markJobS.cout r, .int .i64 r.1, rfl, laws_markJobS.okW k a0 a1 r h, laws_markJobS.go⟩

/-! ### laws_markYard: function 9 -/
def laws_markYard.f (k : Nat) (a0 : S47) (a1 : Int) : Option (Int × List S90 × List Int × List S64 × List S62 × List Int) := (laws_markRobotS.f k a0.f1 a1).bind fun t1 => (laws_markWindow.f k a0.f2 t1.1).bind fun t2 => (laws_markPlan.f k a0.f5 t2.1).bind fun t3 => (laws_markJobS.f k a0.f6 t3.1).bind fun t4 => (laws_markIntS.f k a0.f7 t4.1).bind fun t5 => some (t5.1, t1.2, t2.2, t3.2, t4.2, t5.2)
theorem laws_markYard.go : Callable prog 9 := ⟨_, func9, by kernel_rfl, rfl⟩
def laws_markYard.cin (a0 : S47) : List (Nat × Content) := [(7, .row 90 4 a0.f1.length (fun j => e90 (a0.f1.getD j z90)) true), (10, .row 3 1 a0.f2.f2.length (fun j => (eI .i64) (a0.f2.f2.getD j 0)) true), (15, NC 64 3 S64.f0 (Value.int .i64) z64 0 a0.f5.f2), (16, .row 62 3 a0.f6.length (fun j => e62 (a0.f6.getD j z62)) true), (17, .row 3 1 a0.f7.length (fun j => (eI .i64) (a0.f7.getD j 0)) true)]
def laws_markYard.cout (r : Int × List S90 × List Int × List S64 × List S62 × List Int) : List (Nat × Content) := [(7, .row 90 4 r.2.1.length (fun j => e90 (r.2.1.getD j z90)) true), (10, .row 3 1 r.2.2.1.length (fun j => (eI .i64) (r.2.2.1.getD j 0)) true), (15, NC 64 3 S64.f0 (Value.int .i64) z64 0 r.2.2.2.1), (16, .row 62 3 r.2.2.2.2.1.length (fun j => e62 (r.2.2.2.2.1.getD j z62)) true), (17, .row 3 1 r.2.2.2.2.2.length (fun j => (eI .i64) (r.2.2.2.2.2.getD j 0)) true)]
theorem laws_markYard.flat (r : Int × List S90 × List Int × List S64 × List S62 × List Int) : ∀ p ∈ laws_markYard.cout r, flatP p.2 := (flatP_cons (SC.of (e := e90) (d := z90) r.2.1 (by intro x; rfl)) (flatP_cons (SC.of (e := (eI .i64)) (d := 0) r.2.2.1 (by intro x; rfl)) (flatP_cons trivial (flatP_cons (SC.of (e := e62) (d := z62) r.2.2.2.2.1 (by intro x; rfl)) (flatP_cons (SC.of (e := (eI .i64)) (d := 0) r.2.2.2.2.2 (by intro x; rfl)) flatP_nil)))))
theorem laws_markYard.okW (k : Nat) (a0 : S47) (a1 : Int) (r : Int × List S90 × List Int × List S64 × List S62 × List Int) (h : laws_markYard.f k a0 a1 = some r) : WOk prog 9 [.t (.agg [.p false (iI a0.f0.f0.f0), .p false (iI a0.f0.f0.f1), .p false (.sc (.string a0.f0.f0.f2)), .p false (iI a0.f0.f1), .p false (iI a0.f0.f2), .p false (iI a0.f0.f3), .p false (iI a0.f0.f4), .h 7, .p false (iI a0.f2.f0), .p false (iI a0.f2.f1), .h 10, .p false (iI a0.f3), .p false (.sc (.bool a0.f4)), .p false (iI a0.f5.f0), .p false (iI a0.f5.f1), .hn 15, .h 16, .h 17]), .t (.c (.p false (iI a1)))] (laws_markYard.cin a0) (laws_markYard.cout r) (.int .i64 r.1) := by
  unfold laws_markYard.f at h
  refine WOk.of (fn := f9) (N := 26) func9 rfl rfl rfl rfl rfl (laws_markYard.flat r) (fun w0 xw hB hQ => ?_)
  obtain ⟨t1, g1, h⟩ := bindN h
  let C1 := laws_markRobotS.con k a0.f1 a1 t1 g1
  obtain ⟨t2, g2, h⟩ := bindN h
  let C2 := laws_markWindow.con k a0.f2 t1.1 t2 g2
  obtain ⟨t3, g3, h⟩ := bindN h
  let C3 := laws_markPlan.con k a0.f5 t2.1 t3 g3
  obtain ⟨t4, g4, h⟩ := bindN h
  let C4 := laws_markJobS.con k a0.f6 t3.1 t4 g4
  obtain ⟨t5, g5, h⟩ := bindN h
  let C5 := laws_markIntS.con k a0.f7 t4.1 t5 g5
  cases h
  exact byRetW MX func9 hB hQ (laws_markYard.flat _) (T := [(0, .t (.agg [.p false (iI a0.f0.f0.f0), .p false (iI a0.f0.f0.f1), .p false (.sc (.string a0.f0.f0.f2)), .p false (iI a0.f0.f1), .p false (iI a0.f0.f2), .p false (iI a0.f0.f3), .p false (iI a0.f0.f4), .hv 7 (xw 7), .p false (iI a0.f2.f0), .p false (iI a0.f2.f1), .hv 10 (xw 10), .p false (iI a0.f3), .p false (.sc (.bool a0.f4)), .p false (iI a0.f5.f0), .p false (iI a0.f5.f1), .hv 15 (xw 15), .hv 16 (xw 16), .hv 17 (xw 17)]))]) rfl 1000 [.callW C1 [(0, 7)], .callW C2 [(2, 10)], .callW C3 [(2, 15)], .callW C4 [(0, 16)], .callW C5 [(0, 17)], .fin] (oa (scw_ C1) (oa (scw_ C2) (oa (scw_ C3) (oa (scw_ C4) (oa (scw_ C5) on))))) (by kernel_rfl)
def laws_markYard.con (k : Nat) (a0 : S47) (a1 : Int) (r : Int × List S90 × List Int × List S64 × List S62 × List Int) (h : laws_markYard.f k a0 a1 = some r) : WCon prog := ⟨9, [.t (.agg [.p false (iI a0.f0.f0.f0), .p false (iI a0.f0.f0.f1), .p false (.sc (.string a0.f0.f0.f2)), .p false (iI a0.f0.f1), .p false (iI a0.f0.f2), .p false (iI a0.f0.f3), .p false (iI a0.f0.f4), .h 7, .p false (iI a0.f2.f0), .p false (iI a0.f2.f1), .h 10, .p false (iI a0.f3), .p false (.sc (.bool a0.f4)), .p false (iI a0.f5.f0), .p false (iI a0.f5.f1), .hn 15, .h 16, .h 17]), .t (.c (.p false (iI a1)))], laws_markYard.cin a0, laws_markYard.cout r, .int .i64 r.1, rfl, laws_markYard.okW k a0 a1 r h, laws_markYard.go⟩
end Go.Proofs.Ytfhjipfkaemapaa.V
