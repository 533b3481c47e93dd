/- What each Go function computes, and that the machine does so: printed by a program of this session (avgen.py). -/
import Derived.Test.YtoaknaceaghclaaGreatV3
namespace Go.Proofs.YtoaknaceaghclaaGreat.V
open Go Go.Av Go.Proofs Go.Proofs.Tryz
set_option linter.unusedVariables false
set_option maxRecDepth 100000
/-! ### impl_isJob: function 211 -/
def impl_isJob.f (k : Nat) (a0 : S48) (a1 : Int) (a2 : Int) : Option Bool := if 0 ≤ a1 then (if a1 < (a0.f6.length : Int) then (if a1 < (a0.f5.f2.length : Int) then ((impl_RobotAt.f k a0.f1 ((rdD z74 a0.f6 a1).f0)).bind fun t1 => if t1 < 0 then (some false) else (if 0 ≤ t1 then (if t1 < (a0.f1.length : Int) then (if (rdD z69 a0.f1 t1).f3 = true then (some false) else (if (rdD z74 a0.f6 a1).f1 < 0 then (some false) else (if a0.f5.f0 < (rdD z74 a0.f6 a1).f1 then (some false) else (if (w64 (a2 + 1)) < (rdD z74 a0.f6 a1).f1 then (some false) else (if a1 ≤ (a0.f6.length : Int) then ((slices_ContainsFunc_impl_Job_impl_Job_3.f k ((a0.f6.drop (0 : Int).toNat).take (a1.toNat - (0 : Int).toNat)) (fun x13 => impl_isJob_1.f x13 (rdD z74 a0.f6 a1))).bind fun t2 => if t2 = true then (some false) else (if 0 ≤ (rdD z74 a0.f6 a1).f1 then (if (rdD z74 a0.f6 a1).f1 < (((rdD z72 a0.f5.f2 a1).f0).length : Int) then (if (rdD z69 a0.f1 t1).f1 = (rdD 0 ((rdD z72 a0.f5.f2 a1).f0) ((rdD z74 a0.f6 a1).f1)) then (if (rdD z74 a0.f6 a1).f2 = true then (if (rdD z74 a0.f6 a1).f1 < a0.f5.f0 then (if 0 ≤ (w64 ((rdD z74 a0.f6 a1).f1 + 1)) then (if (w64 ((rdD z74 a0.f6 a1).f1 + 1)) < (((rdD z72 a0.f5.f2 a1).f0).length : Int) then (some (decide ((rdD z69 a0.f1 t1).f2 = (rdD 0 ((rdD z72 a0.f5.f2 a1).f0) (w64 ((rdD z74 a0.f6 a1).f1 + 1)))))) else none) else none) else (some false)) else (some (decide ((rdD z69 a0.f1 t1).f2 = (-1))))) else (some false)) else none) else none)) else none))))) else none) else none)) else none) else none) else none
theorem impl_isJob.go : Callable prog 211 := ⟨_, func211, by kernel_rfl, rfl⟩
theorem impl_isJob.ok (k : Nat) (a0 : S48) (a1 : Int) (a2 : Int) (r : Bool) (h : impl_isJob.f k a0 a1 a2 = some r) : VCalls prog 211 [.agg (e48 a0), .c (iI a1), .c (iI a2)] [.c (.p (.sc (.bool r)))] := by
  unfold impl_isJob.f at h
  refine VCalls.of (fn := f211) (N := 107) func211 rfl rfl (fun w0 => ?_)
  obtain ⟨c1, h⟩ := ifN h
  obtain ⟨c2, h⟩ := ifN h
  obtain ⟨c3, h⟩ := ifN h
  obtain ⟨t1, g4, h⟩ := bindN h
  let C4 := mkCon (impl_RobotAt.ok k a0.f1 ((rdD z74 a0.f6 a1).f0) t1 g4) impl_RobotAt.go
  by_cases c5 : t1 < 0
  · replace h := ip c5 h
    cases h
    exact rt func211 [.call C4, .dec 29 true, .b true, .fin] (o1 c1 (o1 c2 (o1 c1 (o1 c3 (oc C4 (oT c5 (oR on)))))))
  · replace h := iq c5 h
    obtain ⟨c6, h⟩ := ifN h
    obtain ⟨c7, h⟩ := ifN h
    by_cases c8 : (rdD z69 a0.f1 t1).f3 = true
    · replace h := ip c8 h
      cases h
      exact rt func211 [.call C4, .dec 29 false, .dec 37 true, .b true, .fin] (o1 c1 (o1 c2 (o1 c1 (o1 c3 (oc C4 (oF c5 (o1 c6 (o1 c7 (o1 c8 (oR on))))))))))
    · replace h := iq c8 h
      by_cases c9 : (rdD z74 a0.f6 a1).f1 < 0
      · replace h := ip c9 h
        cases h
        exact rt func211 [.call C4, .dec 29 false, .dec 37 false, .dec 42 true, .b true, .fin] (o1 c1 (o1 c2 (o1 c1 (o1 c3 (oc C4 (oF c5 (o1 c6 (o1 c7 (o1 (eqf c8) (oT c9 (oR on)))))))))))
      · replace h := iq c9 h
        by_cases c10 : a0.f5.f0 < (rdD z74 a0.f6 a1).f1
        · replace h := ip c10 h
          cases h
          exact rt func211 [.call C4, .dec 29 false, .dec 37 false, .dec 42 false, .dec 50 true, .b true, .fin] (o1 c1 (o1 c2 (o1 c1 (o1 c3 (oc C4 (oF c5 (o1 c6 (o1 c7 (o1 (eqf c8) (oF c9 (oT c10 (oR on))))))))))))
        · replace h := iq c10 h
          by_cases c11 : (w64 (a2 + 1)) < (rdD z74 a0.f6 a1).f1
          · replace h := ip c11 h
            cases h
            exact rt func211 [.call C4, .dec 29 false, .dec 37 false, .dec 42 false, .dec 50 false, .b true, .fin] (o1 c1 (o1 c2 (o1 c1 (o1 c3 (oc C4 (oF c5 (o1 c6 (o1 c7 (o1 (eqf c8) (oF c9 (oF c10 (oT c11 on))))))))))))
          · replace h := iq c11 h
            obtain ⟨c12, h⟩ := ifN h
            obtain ⟨t2, g14, h⟩ := bindN h
            let C14 := mkCon (slices_ContainsFunc_impl_Job_impl_Job_3.ok k ((a0.f6.drop (0 : Int).toNat).take (a1.toNat - (0 : Int).toNat)) (fun x13 => impl_isJob_1.f x13 (rdD z74 a0.f6 a1)) 237 (.sc (.int .i64 ((rdD z74 a0.f6 a1).f0))) (.sc (.int .i64 ((rdD z74 a0.f6 a1).f1))) (.sc (.bool ((rdD z74 a0.f6 a1).f2))) (fun x13 r h => impl_isJob_1.ok x13 (rdD z74 a0.f6 a1) r h) impl_isJob_1.go t2 g14) slices_ContainsFunc_impl_Job_impl_Job_3.go
            by_cases c15 : t2 = true
            · replace h := ip c15 h
              cases h
              exact rt func211 [.call C4, .dec 29 false, .dec 37 false, .dec 42 false, .dec 50 false, .b false, .cst 60 (R 3 e74 z74 ((a0.f6.drop (0 : Int).toNat).take (a1.toNat - (0 : Int).toNat))), .call C14, .dec 63 true, .b true, .fin] (o1 c1 (o1 c2 (o1 c1 (o1 c3 (oc C4 (oF c5 (o1 c6 (o1 c7 (o1 (eqf c8) (oF c9 (oF c10 (oF c11 (o1 (by decide : (0 : Int) ≤ 0) (o1 c1 (o1 c12 (o1 (VE.cut (z := 3) (e := e74) (d := z74) a0.f6 (n := a0.f6.length) (lo := 0) (hi := a1) rfl (by decide : (0 : Int) ≤ 0) c1 c12) (oc C14 (o1 c15 (oR on)))))))))))))))))))
            · replace h := iq c15 h
              obtain ⟨c16, h⟩ := ifN h
              obtain ⟨c17, h⟩ := ifN h
              by_cases c18 : (rdD z69 a0.f1 t1).f1 = (rdD 0 ((rdD z72 a0.f5.f2 a1).f0) ((rdD z74 a0.f6 a1).f1))
              · replace h := ip c18 h
                by_cases c19 : (rdD z74 a0.f6 a1).f2 = true
                · replace h := ip c19 h
                  by_cases c20 : (rdD z74 a0.f6 a1).f1 < a0.f5.f0
                  · replace h := ip c20 h
                    obtain ⟨c21, h⟩ := ifN h
                    obtain ⟨c22, h⟩ := ifN h
                    cases h
                    exact rt func211 [.call C4, .dec 29 false, .dec 37 false, .dec 42 false, .dec 50 false, .b false, .cst 60 (R 3 e74 z74 ((a0.f6.drop (0 : Int).toNat).take (a1.toNat - (0 : Int).toNat))), .call C14, .dec 63 false, .b false, .b true, .dec 85 true, .fin] (o1 c1 (o1 c2 (o1 c1 (o1 c3 (oc C4 (oF c5 (o1 c6 (o1 c7 (o1 (eqf c8) (oF c9 (oF c10 (oF c11 (o1 (by decide : (0 : Int) ≤ 0) (o1 c1 (o1 c12 (o1 (VE.cut (z := 3) (e := e74) (d := z74) a0.f6 (n := a0.f6.length) (lo := 0) (hi := a1) rfl (by decide : (0 : Int) ≤ 0) c1 c12) (oc C14 (o1 (eqf c15) (o1 c6 (o1 c7 (o1 c16 (o1 c17 (o1 (bnf (decide_eq_true c18)) (o1 c19 (oT c20 (o1 c6 (o1 c7 (o1 c21 (o1 c22 on)))))))))))))))))))))))))))))
                  · replace h := iq c20 h
                    cases h
                    exact rt func211 [.call C4, .dec 29 false, .dec 37 false, .dec 42 false, .dec 50 false, .b false, .cst 60 (R 3 e74 z74 ((a0.f6.drop (0 : Int).toNat).take (a1.toNat - (0 : Int).toNat))), .call C14, .dec 63 false, .b false, .b true, .dec 85 false, .fin] (o1 c1 (o1 c2 (o1 c1 (o1 c3 (oc C4 (oF c5 (o1 c6 (o1 c7 (o1 (eqf c8) (oF c9 (oF c10 (oF c11 (o1 (by decide : (0 : Int) ≤ 0) (o1 c1 (o1 c12 (o1 (VE.cut (z := 3) (e := e74) (d := z74) a0.f6 (n := a0.f6.length) (lo := 0) (hi := a1) rfl (by decide : (0 : Int) ≤ 0) c1 c12) (oc C14 (o1 (eqf c15) (o1 c6 (o1 c7 (o1 c16 (o1 c17 (o1 (bnf (decide_eq_true c18)) (o1 c19 (oF c20 on)))))))))))))))))))))))))
                · replace h := iq c19 h
                  cases h
                  exact rt func211 [.call C4, .dec 29 false, .dec 37 false, .dec 42 false, .dec 50 false, .b false, .cst 60 (R 3 e74 z74 ((a0.f6.drop (0 : Int).toNat).take (a1.toNat - (0 : Int).toNat))), .call C14, .dec 63 false, .b false, .b false, .fin] (o1 c1 (o1 c2 (o1 c1 (o1 c3 (oc C4 (oF c5 (o1 c6 (o1 c7 (o1 (eqf c8) (oF c9 (oF c10 (oF c11 (o1 (by decide : (0 : Int) ≤ 0) (o1 c1 (o1 c12 (o1 (VE.cut (z := 3) (e := e74) (d := z74) a0.f6 (n := a0.f6.length) (lo := 0) (hi := a1) rfl (by decide : (0 : Int) ≤ 0) c1 c12) (oc C14 (o1 (eqf c15) (o1 c6 (o1 c7 (o1 c16 (o1 c17 (o1 (bnf (decide_eq_true c18)) (o1 (eqf c19) (o1 c6 (o1 c7 on))))))))))))))))))))))))))
              · replace h := iq c18 h
                cases h
                exact rt func211 [.call C4, .dec 29 false, .dec 37 false, .dec 42 false, .dec 50 false, .b false, .cst 60 (R 3 e74 z74 ((a0.f6.drop (0 : Int).toNat).take (a1.toNat - (0 : Int).toNat))), .call C14, .dec 63 false, .b true, .fin] (o1 c1 (o1 c2 (o1 c1 (o1 c3 (oc C4 (oF c5 (o1 c6 (o1 c7 (o1 (eqf c8) (oF c9 (oF c10 (oF c11 (o1 (by decide : (0 : Int) ≤ 0) (o1 c1 (o1 c12 (o1 (VE.cut (z := 3) (e := e74) (d := z74) a0.f6 (n := a0.f6.length) (lo := 0) (hi := a1) rfl (by decide : (0 : Int) ≤ 0) c1 c12) (oc C14 (o1 (eqf c15) (o1 c6 (o1 c7 (o1 c16 (o1 c17 (o1 (bnt (decide_eq_false c18)) on)))))))))))))))))))))))

/-! ### impl_jobsOk: function 163 -/
def impl_jobsOk.h0T (a1 : Bool) (t2 : Int) (a0 : S48) (v4 : Int) : List (Nat × AV) := [(1, .t (.c (.p false (.sc (.bool a1))))), (2, .ptr 128 0), (5, .ptr 320 0), (6, .t (.c (.p true (iI t2)))), (70, .t (.c (.p true (.sc (.int .i64 (a0.f6.length : Int)))))), (71, .t (.c (.p true (iI v4))))]
def impl_jobsOk.h0H (a1 : Bool) (t2 : Int) (a0 : S48) (v4 : Int) : List (Nat × Content) := [(128, .box 48 [.p false (iI a0.f0.f0.f0), .p false (iI a0.f0.f0.f1), .p false (.sc (.string a0.f0.f0.f2)), .p false (iI a0.f0.f1), .p false (iI a0.f0.f2), .p false (iI a0.f0.f3), .p false (iI a0.f0.f4), .p false (R 4 e69 z69 a0.f1), .p false (iI a0.f2.f0), .p false (iI a0.f2.f1), .p false (R 1 (eI .i64) 0 a0.f2.f2), .p false (iI a0.f3), .p false (.sc (.bool a0.f4)), .p false (iI a0.f5.f0), .p false (iI a0.f5.f1), .p false (R 1 e72 z72 a0.f5.f2), .p false (R 3 e74 z74 a0.f6), .p false (R 1 (eI .i64) 0 a0.f7)]), (320, .box 45 [.p false (iI a0.f5.f0), .p false (iI a0.f5.f1), .p false (R 1 e72 z72 a0.f5.f2)])]
def impl_jobsOk.l0 : Nat → S48 → Int → Bool → Int → Option Bool
  | 0, _, _, _, _ => none
  | kq + 1, a0, t2, a1, v4 => if v4 < (a0.f6.length : Int) then ((impl_isJob.f kq a0 v4 t2).bind fun t5 => if t5 = true then (impl_jobsOk.l0 kq a0 t2 a1 (w64 (v4 + 1))) else (some false)) else (if a1 = true then (some true) else (some (decide (t2 < a0.f5.f0))))
def impl_jobsOk.f (k : Nat) (a0 : S48) (a1 : Bool) : Option Bool := if a0.f4 = true then (if a0.f5.f0 < 0 then (some false) else (if 20 < a0.f5.f0 then (some false) else (if (a0.f6.length : Int) < 1 then (some false) else (if 10 < (a0.f6.length : Int) then (some false) else (if (a0.f6.length : Int) = (a0.f5.f2.length : Int) then ((slices_ContainsFunc_impl_Way_impl_Way_3.f k a0.f5.f2 (fun x7 => impl_jobsOk_1.f x7 a0.f5)).bind fun t1 => if t1 = true then (some false) else ((impl_LayerOf.f k a0).bind fun t2 => impl_jobsOk.l0 k a0 t2 a1 0)) else (some false)))))) else (if a0.f5.f0 = 0 then (if a0.f5.f1 = 0 then (if (a0.f5.f2.length : Int) = 0 then (some (decide ((a0.f6.length : Int) = 0))) else (some false)) else (some false)) else (some false))
theorem impl_jobsOk.go : Callable prog 163 := ⟨_, func163, by kernel_rfl, rfl⟩
theorem impl_jobsOk.ok (k : Nat) (a0 : S48) (a1 : Bool) (r : Bool) (h : impl_jobsOk.f k a0 a1 = some r) : VCalls prog 163 [.agg (e48 a0), .c (.sc (.bool a1))] [.c (.p (.sc (.bool r)))] := by
  unfold impl_jobsOk.f at h
  refine VCalls.of (fn := f163) (N := 87) func163 rfl rfl (fun w0 => ?_)
  by_cases c1 : a0.f4 = true
  · replace h := ip c1 h
    by_cases c2 : a0.f5.f0 < 0
    · replace h := ip c2 h
      cases h
      exact rt func163 [.b false, .dec 36 true, .b true, .fin] (o1 (bnf c1) (oT c2 (oR on)))
    · replace h := iq c2 h
      by_cases c3 : 20 < a0.f5.f0
      · replace h := ip c3 h
        cases h
        exact rt func163 [.b false, .dec 36 false, .dec 41 true, .b true, .fin] (o1 (bnf c1) (oF c2 (oT c3 (oR on))))
      · replace h := iq c3 h
        by_cases c4 : (a0.f6.length : Int) < 1
        · replace h := ip c4 h
          cases h
          exact rt func163 [.b false, .dec 36 false, .dec 41 false, .dec 47 true, .b true, .fin] (o1 (bnf c1) (oF c2 (oF c3 (oT c4 (oR on)))))
        · replace h := iq c4 h
          by_cases c5 : 10 < (a0.f6.length : Int)
          · replace h := ip c5 h
            cases h
            exact rt func163 [.b false, .dec 36 false, .dec 41 false, .dec 47 false, .dec 53 true, .b true, .fin] (o1 (bnf c1) (oF c2 (oF c3 (oF c4 (oT c5 (oR on))))))
          · replace h := iq c5 h
            by_cases c6 : (a0.f6.length : Int) = (a0.f5.f2.length : Int)
            · replace h := ip c6 h
              obtain ⟨t1, g8, h⟩ := bindN h
              let C8 := mkCon (slices_ContainsFunc_impl_Way_impl_Way_3.ok k a0.f5.f2 (fun x7 => impl_jobsOk_1.f x7 a0.f5) 210 (iI a0.f5.f0) (iI a0.f5.f1) (R 1 e72 z72 a0.f5.f2) (fun x7 r h => impl_jobsOk_1.ok x7 a0.f5 r h) impl_jobsOk_1.go t1 g8) slices_ContainsFunc_impl_Way_impl_Way_3.go
              by_cases c9 : t1 = true
              · replace h := ip c9 h
                cases h
                exact rt func163 [.b false, .dec 36 false, .dec 41 false, .dec 47 false, .dec 53 false, .b false, .call C8, .b true, .fin] (o1 (bnf c1) (oF c2 (oF c3 (oF c4 (oF c5 (o1 (bnf (decide_eq_true c6)) (oc C8 (o1 c9 on))))))))
              · replace h := iq c9 h
                obtain ⟨t2, g10, h⟩ := bindN h
                let C10 := mkCon (impl_LayerOf.ok k a0 t2 g10) impl_LayerOf.go
                have H0 : ∀ (kq : Nat) (v4 : Int), impl_jobsOk.l0 kq a0 t2 a1 v4 = some r → AG prog 163 87 [.c (.p (.sc (.bool r)))] w0 (headStk (codeOf f163) 0) (mkFS (impl_jobsOk.h0T a1 t2 a0 v4) (impl_jobsOk.h0H a1 t2 a0 v4)) := by
                  intro kq
                  induction kq with
                  | zero => intro v4 h; cases h
                  | succ kq ih =>
                    intro v4 h
                    rw [impl_jobsOk.l0] at h
                    by_cases c14 : v4 < (a0.f6.length : Int)
                    · replace h := ip c14 h
                      obtain ⟨t5, g15, h⟩ := bindN h
                      let C15 := mkCon (impl_isJob.ok kq a0 v4 t2 t5 g15) impl_isJob.go
                      by_cases c16 : t5 = true
                      · replace h := ip c16 h
                        exact hd func163 [.b true, .call C15, .b false, .fin] (oT c14 (oc C15 (o1 (bnf c16) on))) (ih (w64 (v4 + 1)) h)
                      · replace h := iq c16 h
                        cases h
                        exact rt func163 [.b true, .call C15, .b true, .fin] (oT c14 (oc C15 (oN c16 on)))
                    · replace h := iq c14 h
                      by_cases c17 : a1 = true
                      · replace h := ip c17 h
                        cases h
                        exact rt func163 [.b false, .fin, .dec 81 true, .fin] (oF c14 (o1 c17 on))
                      · replace h := iq c17 h
                        cases h
                        exact rt func163 [.b false, .fin, .dec 81 false, .fin] (oF c14 (o1 (eqf c17) on))
                exact hd func163 [.b false, .dec 36 false, .dec 41 false, .dec 47 false, .dec 53 false, .b false, .call C8, .b false, .call C10, .fin] (o1 (bnf c1) (oF c2 (oF c3 (oF c4 (oF c5 (o1 (bnf (decide_eq_true c6)) (oc C8 (o1 (eqf c9) (oc C10 on))))))))) (H0 k 0 h)
            · replace h := iq c6 h
              cases h
              exact rt func163 [.b false, .dec 36 false, .dec 41 false, .dec 47 false, .dec 53 false, .b true, .fin] (o1 (bnf c1) (oF c2 (oF c3 (oF c4 (oF c5 (o1 (bnt (decide_eq_false c6)) on))))))
  · replace h := iq c1 h
    by_cases c18 : a0.f5.f0 = 0
    · replace h := ip c18 h
      by_cases c19 : a0.f5.f1 = 0
      · replace h := ip c19 h
        by_cases c20 : (a0.f5.f2.length : Int) = 0
        · replace h := ip c20 h
          cases h
          exact rt func163 [.b true, .dec 16 true, .dec 21 true, .dec 27 true, .fin] (oN c1 (oT c18 (oT c19 (oT c20 on))))
        · replace h := iq c20 h
          cases h
          exact rt func163 [.b true, .dec 16 true, .dec 21 true, .dec 27 false, .fin] (oN c1 (oT c18 (oT c19 (oF c20 on))))
      · replace h := iq c19 h
        cases h
        exact rt func163 [.b true, .dec 16 true, .dec 21 false, .fin] (oN c1 (oT c18 (oF c19 on)))
    · replace h := iq c18 h
      cases h
      exact rt func163 [.b true, .dec 16 false, .fin] (oN c1 (oF c18 on))

/-! ### impl_JobsOk: function 93 -/
def impl_JobsOk.f (k : Nat) (a0 : S48) : Option Bool := (impl_jobsOk.f k a0 false).bind fun t1 => some t1
theorem impl_JobsOk.go : Callable prog 93 := ⟨_, func93, by kernel_rfl, rfl⟩
theorem impl_JobsOk.ok (k : Nat) (a0 : S48) (r : Bool) (h : impl_JobsOk.f k a0 = some r) : VCalls prog 93 [.agg (e48 a0)] [.c (.p (.sc (.bool r)))] := by
  unfold impl_JobsOk.f at h
  refine VCalls.of (fn := f93) (N := 5) func93 rfl rfl (fun w0 => ?_)
  obtain ⟨t1, g1, h⟩ := bindN h
  let C1 := mkCon (impl_jobsOk.ok k a0 false t1 g1) impl_jobsOk.go
  cases h
  exact rt func93 [.call C1, .fin] (oc C1 on)

/-! ### impl_areFree_1: function 164 -/
def impl_areFree_1.f (a0 : Int) (a1 : S38) : Option Bool := (impl_isFree.f a1 a0).bind fun t1 => some (!t1)
theorem impl_areFree_1.go : Callable prog 164 := ⟨_, func164, by kernel_rfl, rfl⟩
theorem impl_areFree_1.ok (a0 : Int) (a1 : S38) (r : Bool) (h : impl_areFree_1.f a0 a1 = some r) : VCalls prog 164 [.c (iI a0), .ptr [.sc (.int .i64 a1.f0), .sc (.int .i64 a1.f1), .sc (.string a1.f2)]] [.c (.p (.sc (.bool r)))] := by
  unfold impl_areFree_1.f at h
  refine VCalls.of (fn := f164) (N := 8) func164 rfl rfl (fun w0 => ?_)
  obtain ⟨t1, g1, h⟩ := bindN h
  let C1 := mkCon (impl_isFree.ok a1 a0 t1 g1) impl_isFree.go
  cases h
  exact rt func164 [.call C1, .fin] (oc C1 on)

/-! ### impl_areFree: function 94 -/
def impl_areFree.f (k : Nat) (a0 : S38) (a1 : List Int) : Option Bool := (impl_GridOk.f k a0).bind fun t1 => if t1 = true then ((slices_ContainsFunc_int_int_3.f k a1 (fun x3 => impl_areFree_1.f x3 a0)).bind fun t2 => some (!t2)) else (some false)
theorem impl_areFree.go : Callable prog 94 := ⟨_, func94, by kernel_rfl, rfl⟩
theorem impl_areFree.ok (k : Nat) (a0 : S38) (a1 : List Int) (r : Bool) (h : impl_areFree.f k a0 a1 = some r) : VCalls prog 94 [.agg (e38 a0), .c (R 1 (eI .i64) 0 a1)] [.c (.p (.sc (.bool r)))] := by
  unfold impl_areFree.f at h
  refine VCalls.of (fn := f94) (N := 13) func94 rfl rfl (fun w0 => ?_)
  obtain ⟨t1, g1, h⟩ := bindN h
  let C1 := mkCon (impl_GridOk.ok k a0 t1 g1) impl_GridOk.go
  by_cases c2 : t1 = true
  · replace h := ip c2 h
    obtain ⟨t2, g4, h⟩ := bindN h
    let C4 := mkCon (slices_ContainsFunc_int_int_3.ok k a1 (fun x3 => impl_areFree_1.f x3 a0) 164 (iI a0.f0) (iI a0.f1) (.sc (.string a0.f2)) (fun x3 r h => impl_areFree_1.ok x3 a0 r h) impl_areFree_1.go t2 g4) slices_ContainsFunc_int_int_3.go
    cases h
    exact rt func94 [.call C1, .dec 7 true, .call C4, .fin] (oc C1 (o1 c2 (oc C4 on)))
  · replace h := iq c2 h
    cases h
    exact rt func94 [.call C1, .dec 7 false, .fin] (oc C1 (o1 (eqf c2) on))

/-! ### impl_isAscending: function 95 -/
def impl_isAscending.h0T (a0 : List Int) (v1 : Int) : List (Nat × AV) := [(0, .t (.c (.p false (R 1 (eI .i64) 0 a0)))), (3, .t (.c (.p true (iI v1))))]
def impl_isAscending.h0H (a0 : List Int) (v1 : Int) : List (Nat × Content) := []
def impl_isAscending.l0 : Nat → List Int → Int → Option Bool
  | 0, _, _ => none
  | kq + 1, a0, v1 => if v1 < (a0.length : Int) then (if 0 ≤ (w64 (v1 - 1)) then (if (w64 (v1 - 1)) < (a0.length : Int) then (if 0 ≤ v1 then (if (rdD 0 a0 v1) ≤ (rdD 0 a0 (w64 (v1 - 1))) then (some false) else (impl_isAscending.l0 kq a0 (w64 (v1 + 1)))) else none) else none) else none) else (some true)
def impl_isAscending.f (k : Nat) (a0 : List Int) : Option Bool := impl_isAscending.l0 k a0 1
theorem impl_isAscending.go : Callable prog 95 := ⟨_, func95, by kernel_rfl, rfl⟩
theorem impl_isAscending.ok (k : Nat) (a0 : List Int) (r : Bool) (h : impl_isAscending.f k a0 = some r) : VCalls prog 95 [.c (R 1 (eI .i64) 0 a0)] [.c (.p (.sc (.bool r)))] := by
  unfold impl_isAscending.f at h
  refine VCalls.of (fn := f95) (N := 20) func95 rfl rfl (fun w0 => ?_)
  have H0 : ∀ (kq : Nat) (v1 : Int), impl_isAscending.l0 kq a0 v1 = some r → AG prog 95 20 [.c (.p (.sc (.bool r)))] w0 (headStk (codeOf f95) 0) (mkFS (impl_isAscending.h0T a0 v1) (impl_isAscending.h0H a0 v1)) := by
    intro kq
    induction kq with
    | zero => intro v1 h; cases h
    | succ kq ih =>
      intro v1 h
      rw [impl_isAscending.l0] at h
      by_cases c5 : v1 < (a0.length : Int)
      · replace h := ip c5 h
        obtain ⟨c6, h⟩ := ifN h
        obtain ⟨c7, h⟩ := ifN h
        obtain ⟨c8, h⟩ := ifN h
        by_cases c9 : (rdD 0 a0 v1) ≤ (rdD 0 a0 (w64 (v1 - 1)))
        · replace h := ip c9 h
          cases h
          exact rt func95 [.b true, .b true, .fin] (oT c5 (o1 c6 (o1 c7 (o1 c8 (o1 c5 (oT c9 on))))))
        · replace h := iq c9 h
          exact hd func95 [.b true, .b false, .fin] (oT c5 (o1 c6 (o1 c7 (o1 c8 (o1 c5 (oF c9 on)))))) (ih (w64 (v1 + 1)) h)
      · replace h := iq c5 h
        cases h
        exact rt func95 [.b false, .fin, .fin] (oF c5 on)
  exact hd func95 [.fin] on (H0 k 1 h)

/-! ### impl_CellsUsed: function 165 -/
def impl_CellsUsed.h0T (a0 : List S72) (v3 : Int) (v2 : List Int) : List (Nat × AV) := [(3, .t (.c (.h 320192))), (6, .t (.c (.p false (R 1 e72 z72 a0)))), (7, .t (.c (.p true (.sc (.int .i64 (a0.length : Int)))))), (8, .t (.c (.p true (iI v3))))]
def impl_CellsUsed.h0H (a0 : List S72) (v3 : Int) (v2 : List Int) : List (Nat × Content) := [(320192, .row 3 1 v2.length (fun j => (eI .i64) (v2.getD j 0)) true)]
def impl_CellsUsed.l0 : Nat → List S72 → List Int → Int → Option (List Int)
  | 0, _, _, _ => none
  | kq + 1, a0, v2, v3 => if v3 < (a0.length : Int) then (if 0 ≤ v3 then (if (v2.length + ((rdD z72 a0 v3).f0).length) * 8 ≤ 140737488355328 then (impl_CellsUsed.l0 kq a0 (v2 ++ (rdD z72 a0 v3).f0) (w64 (v3 + 1))) else none) else none) else ((AvOrd.impl_ordered.f v2).bind fun t4 => some t4)
def impl_CellsUsed.f (k : Nat) (a0 : List S72) : Option (List Int) := impl_CellsUsed.l0 k a0 ([] : List Int) 0
theorem impl_CellsUsed.go : Callable prog 165 := ⟨_, func165, by kernel_rfl, rfl⟩
theorem impl_CellsUsed.ok (k : Nat) (a0 : List S72) (r : (List Int)) (h : impl_CellsUsed.f k a0 = some r) : VCalls prog 165 [.c (R 1 e72 z72 a0)] [.c (.own 3 1 r.length (fun j => (eI .i64) (r.getD j 0)))] := by
  unfold impl_CellsUsed.f at h
  refine VCalls.of (fn := f165) (N := 19) func165 rfl rfl (fun w0 => ?_)
  have H0 : ∀ (kq : Nat) (v2 : List Int) (v3 : Int), impl_CellsUsed.l0 kq a0 v2 v3 = some r → AG prog 165 19 [.c (.own 3 1 r.length (fun j => (eI .i64) (r.getD j 0)))] w0 (headStk (codeOf f165) 0) (mkFS (impl_CellsUsed.h0T a0 v3 v2) (impl_CellsUsed.h0H a0 v3 v2)) := by
    intro kq
    induction kq with
    | zero => intro v2 v3 h; cases h
    | succ kq ih =>
      intro v2 v3 h
      rw [impl_CellsUsed.l0] at h
      by_cases c8 : v3 < (a0.length : Int)
      · replace h := ip c8 h
        obtain ⟨c9, h⟩ := ifN h
        obtain ⟨c10, h⟩ := ifN h
        exact hd func165 [.b true, .aft 15, orow 320192 (eI .i64) 0 (v2 ++ (rdD z72 a0 v3).f0), .reg 6, .flat 320192, .fin] (oT c8 (o1 c9 (o1 c8 (o1 c10 (o1 (GE.app (e := (eI .i64)) (d := 0) v2 ((rdD z72 a0 v3).f0) rfl (fun _ _ => CE.refl _) rfl) (o1 (SC.of (e := (eI .i64)) (d := 0) (v2 ++ (rdD z72 a0 v3).f0) (by intro x; rfl)) on)))))) (ih (v2 ++ (rdD z72 a0 v3).f0) (w64 (v3 + 1)) h)
      · replace h := iq c8 h
        obtain ⟨t4, g11, h⟩ := bindN h
        let C11 := AvOrd.impl_ordered.con v2 t4 g11
        cases h
        exact rt func165 [.b false, .fin, .callM C11, .aft 18, orow 320192 (eI .i64) 0 r, .fin] (oF c8 (o1 (rfl : C11.f = C11.f) (o1 (rfl : C11.e = C11.e) (o1 (AvOrd.sc_in v2) (o1 (AvOrd.sc_out r) on)))))
  exact hd func165 [.fin, .nil 3 320192 3 1, orow 320192 (eI .i64) 0 ([] : List Int)] (o1 (GE.nil (eI .i64) 0) on) (H0 k ([] : List Int) 0 h)

/-! ### impl_Footprint: function 96 -/
def impl_Footprint.f (k : Nat) (a0 : S48) : Option (List Int) := if a0.f4 = true then ((impl_CellsUsed.f k a0.f5.f2).bind fun t1 => some t1) else (some ([] : List Int))
theorem impl_Footprint.go : Callable prog 96 := ⟨_, func96, by kernel_rfl, rfl⟩
theorem impl_Footprint.ok (k : Nat) (a0 : S48) (r : (List Int)) (h : impl_Footprint.f k a0 = some r) : VCalls prog 96 [.agg (e48 a0)] [.c (.own 3 1 r.length (fun j => (eI .i64) (r.getD j 0)))] := by
  unfold impl_Footprint.f at h
  refine VCalls.of (fn := f96) (N := 10) func96 rfl rfl (fun w0 => ?_)
  by_cases c1 : a0.f4 = true
  · replace h := ip c1 h
    obtain ⟨t1, g2, h⟩ := bindN h
    let C2 := mkCon (impl_CellsUsed.ok k a0.f5.f2 t1 g2) impl_CellsUsed.go
    cases h
    exact rt func96 [.b false, .call C2, .fin] (o1 (bnf c1) (oc C2 on))
  · replace h := iq c1 h
    cases h
    exact rt func96 [.b true, .fin, .nil 2 384128 3 1, orow 384128 (eI .i64) 0 ([] : List Int)] (oN c1 (o1 (GE.nil (eI .i64) 0) on))

/-! ### impl_FreeCells: function 180 -/
def impl_FreeCells.h0T (a0 : S38) (v7 : Nat) (v6 : List Int) : List (Nat × AV) := [(1, .ptr 64 0), (3, .t (.c (.h 320192))), (10, .ptr 640 0)]
def impl_FreeCells.h0H (a0 : S38) (v7 : Nat) (v6 : List Int) : List (Nat × Content) := [(64, .box 38 [.p false (iI a0.f0), .p false (iI a0.f1), .p false (.sc (.string a0.f2))]), (640, .iter a0.f2 v7), (320192, .row 3 1 v6.length (fun j => (eI .i64) (v6.getD j 0)) true)]
def impl_FreeCells.l0 : Nat → S38 → List Int → Nat → Option (List Int)
  | 0, _, _, _ => none
  | kq + 1, a0, v6, v7 => if v7 < a0.f2.size then ((impl_isFree.f a0 ((v7 : Nat) : Int)).bind fun t8 => if t8 = true then (if (v6.length + 1) * 8 ≤ 140737488355328 then (impl_FreeCells.l0 kq a0 (v6 ++ [((v7 : Nat) : Int)]) (v7 + (Utf8.decode a0.f2 v7).2)) else none) else (impl_FreeCells.l0 kq a0 v6 (v7 + (Utf8.decode a0.f2 v7).2))) else (some v6)
def impl_FreeCells.f (k : Nat) (a0 : S38) : Option (List Int) := (impl_GridOk.f k a0).bind fun t1 => if t1 = true then (impl_FreeCells.l0 k a0 ([] : List Int) 0) else (some ([] : List Int))
theorem impl_FreeCells.go : Callable prog 180 := ⟨_, func180, by kernel_rfl, rfl⟩
theorem impl_FreeCells.ok (k : Nat) (a0 : S38) (r : (List Int)) (h : impl_FreeCells.f k a0 = some r) : VCalls prog 180 [.agg (e38 a0)] [.c (.own 3 1 r.length (fun j => (eI .i64) (r.getD j 0)))] := by
  unfold impl_FreeCells.f at h
  refine VCalls.of (fn := f180) (N := 22) func180 rfl rfl (fun w0 => ?_)
  obtain ⟨t1, g1, h⟩ := bindN h
  let C1 := mkCon (impl_GridOk.ok k a0 t1 g1) impl_GridOk.go
  by_cases c2 : t1 = true
  · replace h := ip c2 h
    have H0 : ∀ (kq : Nat) (v6 : List Int) (v7 : Nat), impl_FreeCells.l0 kq a0 v6 v7 = some r → AG prog 180 22 [.c (.own 3 1 r.length (fun j => (eI .i64) (r.getD j 0)))] w0 (headStk (codeOf f180) 0) (mkFS (impl_FreeCells.h0T a0 v7 v6) (impl_FreeCells.h0H a0 v7 v6)) := by
      intro kq
      induction kq with
      | zero => intro v6 v7 h; cases h
      | succ kq ih =>
        intro v6 v7 h
        rw [impl_FreeCells.l0] at h
        by_cases c15 : v7 < a0.f2.size
        · replace h := ip c15 h
          obtain ⟨t8, g16, h⟩ := bindN h
          let C16 := mkCon (impl_isFree.ok a0 ((v7 : Nat) : Int) t8 g16) impl_isFree.go
          by_cases c17 : t8 = true
          · replace h := ip c17 h
            obtain ⟨c18, h⟩ := ifN h
            exact hd func180 [.dec 11 true, .b true, .call C16, .b true, rowe 19 (eI .i64) 0 ([((v7 : Nat) : Int)]), .aft 20, orow 320192 (eI .i64) 0 (v6 ++ [((v7 : Nat) : Int)]), .fin] (o1 c15 (oR (oc C16 (o1 c17 (o1 (GE.lit 1 (eI .i64) 0 [((v7 : Nat) : Int)] (by intro x; rfl)) (o1 c18 (o1 (GE.app (e := (eI .i64)) (d := 0) v6 ([((v7 : Nat) : Int)]) rfl (fun _ _ => CE.refl _) rfl) on))))))) (ih (v6 ++ [((v7 : Nat) : Int)]) (v7 + (Utf8.decode a0.f2 v7).2) h)
          · replace h := iq c17 h
            exact hd func180 [.dec 11 true, .b true, .call C16, .b false, .fin] (o1 c15 (oR (oc C16 (o1 (eqf c17) on)))) (ih v6 (v7 + (Utf8.decode a0.f2 v7).2) h)
        · replace h := iq c15 h
          cases h
          exact rt func180 [.dec 11 false, .b false, .fin, .fin] (o1 c15 (o1 (rfl : false = false) on))
    exact hd func180 [.call C1, .b false, .fin, .nil 3 320192 3 1, orow 320192 (eI .i64) 0 ([] : List Int)] (oc C1 (o1 (bnf c2) (o1 (GE.nil (eI .i64) 0) on))) (H0 k ([] : List Int) 0 h)
  · replace h := iq c2 h
    cases h
    exact rt func180 [.call C1, .b true, .fin, .nil 2 384128 3 1, orow 384128 (eI .i64) 0 ([] : List Int)] (oc C1 (oN c2 (o1 (GE.nil (eI .i64) 0) on)))

/-! ### impl_Walled: function 179 -/
def impl_Walled.h0T (a1 : List Int) (a0 : S38) (v6 : Int) (v5 : List Int) : List (Nat × AV) := [(1, .t (.c (.p false (R 1 (eI .i64) 0 a1)))), (2, .ptr 128 0), (4, .ptr 256 0), (5, .t (.c (.h 832))), (15, .t (.c (.p true (.sc (.int .i64 ((bytesOf a0.f2).length : Int)))))), (16, .t (.c (.p true (iI v6))))]
def impl_Walled.h0H (a1 : List Int) (a0 : S38) (v6 : Int) (v5 : List Int) : List (Nat × Content) := [(128, .box 38 [.p false (iI a0.f0), .p false (iI a0.f1), .p false (.sc (.string a0.f2))]), (256, .box 38 [.p true (iI 0), .p true (iI 0), .p true (.sc (.string (⟨#[]⟩ : ByteArray)))]), (832, .row 1099511627781 1 v5.length (fun j => (eI .u8) (v5.getD j 0)) true)]
def impl_Walled.l0 : Nat → S38 → List Int → List Int → Int → Option S38
  | 0, _, _, _, _ => none
  | kq + 1, a0, a1, v5, v6 => if v6 < ((bytesOf a0.f2).length : Int) then ((slices_Contains_int_int.f kq a1 v6).bind fun t7 => if t7 = true then (if 0 ≤ v6 then (if v6 < (v5.length : Int) then (impl_Walled.l0 kq a0 a1 (v5.set v6.toNat 35) (w64 (v6 + 1))) else none) else none) else (impl_Walled.l0 kq a0 a1 v5 (w64 (v6 + 1)))) else (if isBytes v5 = true then (some (⟨a0.f0, a0.f1, (strOf v5)⟩ : S38)) else none)
def impl_Walled.f (k : Nat) (a0 : S38) (a1 : List Int) : Option S38 := (impl_GridOk.f k a0).bind fun t1 => if t1 = true then (if a0.f2.size ≤ maxLen then (impl_Walled.l0 k a0 a1 (bytesOf a0.f2) 0) else none) else (some a0)
theorem impl_Walled.go : Callable prog 179 := ⟨_, func179, by kernel_rfl, rfl⟩
theorem impl_Walled.ok (k : Nat) (a0 : S38) (a1 : List Int) (r : S38) (h : impl_Walled.f k a0 a1 = some r) : VCalls prog 179 [.agg (e38 a0), .c (R 1 (eI .i64) 0 a1)] [.agg (r38 r)] := by
  unfold impl_Walled.f at h
  refine VCalls.of (fn := f179) (N := 33) func179 rfl rfl (fun w0 => ?_)
  obtain ⟨t1, g1, h⟩ := bindN h
  let C1 := mkCon (impl_GridOk.ok k a0 t1 g1) impl_GridOk.go
  by_cases c2 : t1 = true
  · replace h := ip c2 h
    obtain ⟨c3, h⟩ := ifN h
    have H0 : ∀ (kq : Nat) (v5 : List Int) (v6 : Int), impl_Walled.l0 kq a0 a1 v5 v6 = some r → AG prog 179 33 [.agg (r38 r)] w0 (headStk (codeOf f179) 0) (mkFS (impl_Walled.h0T a1 a0 v6 v5) (impl_Walled.h0H a1 a0 v6 v5)) := by
      intro kq
      induction kq with
      | zero => intro v5 v6 h; cases h
      | succ kq ih =>
        intro v5 v6 h
        rw [impl_Walled.l0] at h
        by_cases c11 : v6 < ((bytesOf a0.f2).length : Int)
        · replace h := ip c11 h
          obtain ⟨t7, g12, h⟩ := bindN h
          let C12 := mkCon (slices_Contains_int_int.ok kq a1 v6 t7 g12) slices_Contains_int_int.go
          by_cases c13 : t7 = true
          · replace h := ip c13 h
            obtain ⟨c14, h⟩ := ifN h
            obtain ⟨c15, h⟩ := ifN h
            exact hd func179 [.b true, .call C12, .b true, .aft 999999, orow 832 (eI .u8) 0 (v5.set v6.toNat 35), .fin] (oT c11 (oc C12 (o1 c13 (o1 c14 (o1 c15 (o1 (GE.set (e := (eI .u8)) (d := 0) v5 v6.toNat 35 (lt_toNat c14 c15) rfl) on)))))) (ih (v5.set v6.toNat 35) (w64 (v6 + 1)) h)
          · replace h := iq c13 h
            exact hd func179 [.b true, .call C12, .b false, .fin] (oT c11 (oc C12 (o1 (eqf c13) on))) (ih v5 (w64 (v6 + 1)) h)
        · replace h := iq c11 h
          obtain ⟨c16, h⟩ := ifN h
          cases h
          exact rt func179 [.b false, .fin, .cst 31 (.sc (.string (strOf v5))), .fin] (oF c11 (o1 (ByOk.of c16) (o1 (VE.str v5) on)))
    exact hd func179 [.call C1, .b false, rowe 13 (eI .u8) 0 (bytesOf a0.f2), .fin] (oc C1 (o1 (bnf c2) (o1 c3 (o1 (GE.bytes a0.f2) on)))) (H0 k (bytesOf a0.f2) 0 h)
  · replace h := iq c2 h
    cases h
    exact rt func179 [.call C1, .b true, .fin] (oc C1 (oN c2 on))

/-! ### impl_onlyCells: function 98 -/
def impl_onlyCells.f (k : Nat) (a0 : S38) (a1 : List Int) : Option S38 := (impl_FreeCells.f k a0).bind fun v => (AvDel.del.f a1 v).bind fun u => impl_Walled.f k a0 u
theorem impl_onlyCells.go : Callable prog 98 := ⟨_, func98, by kernel_rfl, rfl⟩
theorem impl_onlyCells.ok (k : Nat) (a0 : S38) (a1 : List Int) (r : S38) (h : impl_onlyCells.f k a0 a1 = some r) : VCalls prog 98 [.agg (e38 a0), .c (R 1 (eI .i64) 0 a1)] [.agg (r38 r)] := by
  unfold impl_onlyCells.f at h
  refine VCalls.of (fn := f98) (N := 11) func98 rfl rfl (fun w0 => ?_)
  obtain ⟨v, g1, h⟩ := bindN h
  obtain ⟨u, g2, h⟩ := bindN h
  let C1 := mkCon (impl_FreeCells.ok k a0 v g1) impl_FreeCells.go
  let C2 := AvDel.del.con a1 v u g2
  let C3 := mkCon (impl_Walled.ok k a0 u r h) impl_Walled.go
  have b2 := sc_ C1
  have b4 := o1 (rfl : C2.f = C2.f) (o1 (rfl : C2.e = C2.e) (o1 (AvOrd.sc_in v) (o1 (rfl : 181 = 181) (o1 (VE.refl (rowI .i64 a1)) on))))
  have b5 := o1 (rfl : C3.f = C3.f) (o1 (VE.refl (iI a0.f0)) (o1 (VE.refl (iI a0.f1)) (o1 (VE.refl (.sc (.string a0.f2))) (o1 (VE.row (z := 1) (AvOrd.sc_out u)) on))))
  have lf := selfS_ok [(4, .ptr 256 0)] [(256, .box 38 [.p true (iI r.f0), .p true (iI r.f1), .p true (.sc (.string r.f2))])]
  have n1 := (oa lf on)
  have n2 := (oa (oa b5 n1) on)
  have n3 := (oa n2 on)
  have n4 := (oa (oa b4 n2) on)
  have n5 := (oa n4 (oa (oa b4 n3) on))
  have n6 := (oa (oa b2 n4) on)
  have n7 := (oa n6 (oa (oa b2 n5) on))
  have n8 := (oa n6 on)
  have n9 := (oa n8 (oa n7 on))
  have n10 := (oa n4 on)
  have n11 := (oa n10 (oa n5 on))
  have n12 := (oa (oa b2 n10) (oa n6 on))
  have n13 := (oa n12 (oa (oa b2 n11) (oa n7 on)))
  have n14 := (oa n12 (oa n8 on))
  have n15 := (oa n14 (oa n13 (oa n9 on)))
  exact rt func98 [.anyR 6 [(4, .ptr 256 0)] [(256, .box 38 [.p true (iI r.f0), .p true (iI r.f1), .p true (.sc (.string r.f2))])], .reg 2, .call C1, .reg 4, .callM C2, .reg 5, .call C3, .fin] (oa n15 on)


/-! ### impl_firstCells: function 99 -/
def impl_firstCells.h0T (a0 : List S72) (v3 : Int) (v2 : List Int) : List (Nat × AV) := [(3, .t (.c (.h 320192))), (6, .t (.c (.p false (R 1 e72 z72 a0)))), (7, .t (.c (.p true (.sc (.int .i64 (a0.length : Int)))))), (8, .t (.c (.p true (iI v3))))]
def impl_firstCells.h0H (a0 : List S72) (v3 : Int) (v2 : List Int) : List (Nat × Content) := [(320192, .row 3 1 v2.length (fun j => (eI .i64) (v2.getD j 0)) true)]
def impl_firstCells.l0 : Nat → List S72 → List Int → Int → Option (List Int)
  | 0, _, _, _ => none
  | kq + 1, a0, v2, v3 => if v3 < (a0.length : Int) then (if 0 ≤ v3 then (if 0 < (((rdD z72 a0 v3).f0).length : Int) then (if (v2.length + 1) * 8 ≤ 140737488355328 then (impl_firstCells.l0 kq a0 (v2 ++ [(rdD 0 ((rdD z72 a0 v3).f0) 0)]) (w64 (v3 + 1))) else none) else none) else none) else (some v2)
def impl_firstCells.f (k : Nat) (a0 : List S72) : Option (List Int) := impl_firstCells.l0 k a0 ([] : List Int) 0
theorem impl_firstCells.go : Callable prog 99 := ⟨_, func99, by kernel_rfl, rfl⟩
theorem impl_firstCells.ok (k : Nat) (a0 : List S72) (r : (List Int)) (h : impl_firstCells.f k a0 = some r) : VCalls prog 99 [.c (R 1 e72 z72 a0)] [.c (.own 3 1 r.length (fun j => (eI .i64) (r.getD j 0)))] := by
  unfold impl_firstCells.f at h
  refine VCalls.of (fn := f99) (N := 21) func99 rfl rfl (fun w0 => ?_)
  have H0 : ∀ (kq : Nat) (v2 : List Int) (v3 : Int), impl_firstCells.l0 kq a0 v2 v3 = some r → AG prog 99 21 [.c (.own 3 1 r.length (fun j => (eI .i64) (r.getD j 0)))] w0 (headStk (codeOf f99) 0) (mkFS (impl_firstCells.h0T a0 v3 v2) (impl_firstCells.h0H a0 v3 v2)) := by
    intro kq
    induction kq with
    | zero => intro v2 v3 h; cases h
    | succ kq ih =>
      intro v2 v3 h
      rw [impl_firstCells.l0] at h
      by_cases c11 : v3 < (a0.length : Int)
      · replace h := ip c11 h
        obtain ⟨c12, h⟩ := ifN h
        obtain ⟨c13, h⟩ := ifN h
        obtain ⟨c14, h⟩ := ifN h
        exact hd func99 [.b true, rowe 17 (eI .i64) 0 ([(rdD 0 ((rdD z72 a0 v3).f0) 0)]), .aft 18, orow 320192 (eI .i64) 0 (v2 ++ [(rdD 0 ((rdD z72 a0 v3).f0) 0)]), .fin] (oT c11 (o1 c12 (o1 c11 (o1 (by decide : (0 : Int) ≤ 0) (o1 c13 (o1 (GE.lit 1 (eI .i64) 0 [(rdD 0 ((rdD z72 a0 v3).f0) 0)] (by intro x; rfl)) (o1 c14 (o1 (GE.app (e := (eI .i64)) (d := 0) v2 ([(rdD 0 ((rdD z72 a0 v3).f0) 0)]) rfl (fun _ _ => CE.refl _) rfl) on)))))))) (ih (v2 ++ [(rdD 0 ((rdD z72 a0 v3).f0) 0)]) (w64 (v3 + 1)) h)
      · replace h := iq c11 h
        cases h
        exact rt func99 [.b false, .fin, .fin] (oF c11 on)
  exact hd func99 [.fin, .nil 3 320192 3 1, orow 320192 (eI .i64) 0 ([] : List Int)] (o1 (GE.nil (eI .i64) 0) on) (H0 k ([] : List Int) 0 h)

/-! ### impl_EndsOf: function 166 -/
def impl_EndsOf.h0T (a0 : List S72) (v3 : Int) (v2 : List Int) : List (Nat × AV) := [(3, .t (.c (.h 320192))), (6, .t (.c (.p false (R 1 e72 z72 a0)))), (7, .t (.c (.p true (.sc (.int .i64 (a0.length : Int)))))), (8, .t (.c (.p true (iI v3))))]
def impl_EndsOf.h0H (a0 : List S72) (v3 : Int) (v2 : List Int) : List (Nat × Content) := [(320192, .row 3 1 v2.length (fun j => (eI .i64) (v2.getD j 0)) true)]
def impl_EndsOf.l0 : Nat → List S72 → List Int → Int → Option (List Int)
  | 0, _, _, _ => none
  | kq + 1, a0, v2, v3 => if v3 < (a0.length : Int) then (if 0 ≤ v3 then (if 0 < (((rdD z72 a0 v3).f0).length : Int) then (if 0 ≤ (w64 ((((rdD z72 a0 v3).f0).length : Int) - 1)) then (if (w64 ((((rdD z72 a0 v3).f0).length : Int) - 1)) < (((rdD z72 a0 v3).f0).length : Int) then (if (v2.length + 1) * 8 ≤ 140737488355328 then (impl_EndsOf.l0 kq a0 (v2 ++ [(rdD 0 ((rdD z72 a0 v3).f0) (w64 ((((rdD z72 a0 v3).f0).length : Int) - 1)))]) (w64 (v3 + 1))) else none) else none) else none) else (impl_EndsOf.l0 kq a0 v2 (w64 (v3 + 1)))) else none) else ((AvOrd.impl_ordered.f v2).bind fun t4 => some t4)
def impl_EndsOf.f (k : Nat) (a0 : List S72) : Option (List Int) := impl_EndsOf.l0 k a0 ([] : List Int) 0
theorem impl_EndsOf.go : Callable prog 166 := ⟨_, func166, by kernel_rfl, rfl⟩
theorem impl_EndsOf.ok (k : Nat) (a0 : List S72) (r : (List Int)) (h : impl_EndsOf.f k a0 = some r) : VCalls prog 166 [.c (R 1 e72 z72 a0)] [.c (.own 3 1 r.length (fun j => (eI .i64) (r.getD j 0)))] := by
  unfold impl_EndsOf.f at h
  refine VCalls.of (fn := f166) (N := 30) func166 rfl rfl (fun w0 => ?_)
  have H0 : ∀ (kq : Nat) (v2 : List Int) (v3 : Int), impl_EndsOf.l0 kq a0 v2 v3 = some r → AG prog 166 30 [.c (.own 3 1 r.length (fun j => (eI .i64) (r.getD j 0)))] w0 (headStk (codeOf f166) 0) (mkFS (impl_EndsOf.h0T a0 v3 v2) (impl_EndsOf.h0H a0 v3 v2)) := by
    intro kq
    induction kq with
    | zero => intro v2 v3 h; cases h
    | succ kq ih =>
      intro v2 v3 h
      rw [impl_EndsOf.l0] at h
      by_cases c17 : v3 < (a0.length : Int)
      · replace h := ip c17 h
        obtain ⟨c18, h⟩ := ifN h
        by_cases c19 : 0 < (((rdD z72 a0 v3).f0).length : Int)
        · replace h := ip c19 h
          obtain ⟨c20, h⟩ := ifN h
          obtain ⟨c21, h⟩ := ifN h
          obtain ⟨c22, h⟩ := ifN h
          exact hd func166 [.b true, .b true, rowe 25 (eI .i64) 0 ([(rdD 0 ((rdD z72 a0 v3).f0) (w64 ((((rdD z72 a0 v3).f0).length : Int) - 1)))]), .aft 26, orow 320192 (eI .i64) 0 (v2 ++ [(rdD 0 ((rdD z72 a0 v3).f0) (w64 ((((rdD z72 a0 v3).f0).length : Int) - 1)))]), .fin] (oT c17 (o1 c18 (o1 c17 (oT c19 (o1 c20 (o1 c21 (o1 (GE.lit 1 (eI .i64) 0 [(rdD 0 ((rdD z72 a0 v3).f0) (w64 ((((rdD z72 a0 v3).f0).length : Int) - 1)))] (by intro x; rfl)) (o1 c22 (o1 (GE.app (e := (eI .i64)) (d := 0) v2 ([(rdD 0 ((rdD z72 a0 v3).f0) (w64 ((((rdD z72 a0 v3).f0).length : Int) - 1)))]) rfl (fun _ _ => CE.refl _) rfl) on))))))))) (ih (v2 ++ [(rdD 0 ((rdD z72 a0 v3).f0) (w64 ((((rdD z72 a0 v3).f0).length : Int) - 1)))]) (w64 (v3 + 1)) h)
        · replace h := iq c19 h
          exact hd func166 [.b true, .b false, .fin] (oT c17 (o1 c18 (o1 c17 (oF c19 on)))) (ih v2 (w64 (v3 + 1)) h)
      · replace h := iq c17 h
        obtain ⟨t4, g23, h⟩ := bindN h
        let C23 := AvOrd.impl_ordered.con v2 t4 g23
        cases h
        exact rt func166 [.b false, .fin, .callM C23, .aft 29, orow 320192 (eI .i64) 0 r, .fin] (oF c17 (o1 (rfl : C23.f = C23.f) (o1 (rfl : C23.e = C23.e) (o1 (AvOrd.sc_in v2) (o1 (AvOrd.sc_out r) on)))))
  exact hd func166 [.fin, .nil 3 320192 3 1, orow 320192 (eI .i64) 0 ([] : List Int)] (o1 (GE.nil (eI .i64) 0) on) (H0 k ([] : List Int) 0 h)

/-! ### impl_isAsked: function 212 -/
def impl_isAsked.f (k : Nat) (a0 : S38) (a1 : List Int) (a2 : List Int) : Option Bool := (impl_areFree.f k a0 a1).bind fun t1 => if t1 = true then ((impl_areFree.f k a0 a2).bind fun t2 => if t2 = true then (if (a1.length : Int) < 1 then (some false) else (if 10 < (a1.length : Int) then (some false) else ((impl_isAscending.f k a1).bind fun t3 => if t3 = true then ((impl_isAscending.f k a2).bind fun t4 => if t4 = true then (some (decide ((a2.length : Int) ≤ (a1.length : Int)))) else (some false)) else (some false)))) else (some false)) else (some false)
theorem impl_isAsked.go : Callable prog 212 := ⟨_, func212, by kernel_rfl, rfl⟩
theorem impl_isAsked.ok (k : Nat) (a0 : S38) (a1 : List Int) (a2 : List Int) (r : Bool) (h : impl_isAsked.f k a0 a1 a2 = some r) : VCalls prog 212 [.agg (e38 a0), .c (R 1 (eI .i64) 0 a1), .c (R 1 (eI .i64) 0 a2)] [.c (.p (.sc (.bool r)))] := by
  unfold impl_isAsked.f at h
  refine VCalls.of (fn := f212) (N := 40) func212 rfl rfl (fun w0 => ?_)
  obtain ⟨t1, g1, h⟩ := bindN h
  let C1 := mkCon (impl_areFree.ok k a0 a1 t1 g1) impl_areFree.go
  by_cases c2 : t1 = true
  · replace h := ip c2 h
    obtain ⟨t2, g3, h⟩ := bindN h
    let C3 := mkCon (impl_areFree.ok k a0 a2 t2 g3) impl_areFree.go
    by_cases c4 : t2 = true
    · replace h := ip c4 h
      by_cases c5 : (a1.length : Int) < 1
      · replace h := ip c5 h
        cases h
        exact rt func212 [.call C1, .dec 11 false, .call C3, .dec 17 false, .dec 22 true, .b true, .fin] (oc C1 (o1 (bnf c2) (oc C3 (o1 (bnf c4) (oT c5 (oR on))))))
      · replace h := iq c5 h
        by_cases c6 : 10 < (a1.length : Int)
        · replace h := ip c6 h
          cases h
          exact rt func212 [.call C1, .dec 11 false, .call C3, .dec 17 false, .dec 22 false, .b true, .fin] (oc C1 (o1 (bnf c2) (oc C3 (o1 (bnf c4) (oF c5 (oT c6 on))))))
        · replace h := iq c6 h
          obtain ⟨t3, g7, h⟩ := bindN h
          let C7 := mkCon (impl_isAscending.ok k a1 t3 g7) impl_isAscending.go
          by_cases c8 : t3 = true
          · replace h := ip c8 h
            obtain ⟨t4, g9, h⟩ := bindN h
            let C9 := mkCon (impl_isAscending.ok k a2 t4 g9) impl_isAscending.go
            by_cases c10 : t4 = true
            · replace h := ip c10 h
              cases h
              exact rt func212 [.call C1, .dec 11 false, .call C3, .dec 17 false, .dec 22 false, .b false, .call C7, .dec 29 true, .call C9, .dec 33 true, .fin] (oc C1 (o1 (bnf c2) (oc C3 (o1 (bnf c4) (oF c5 (oF c6 (oc C7 (o1 c8 (oc C9 (o1 c10 on))))))))))
            · replace h := iq c10 h
              cases h
              exact rt func212 [.call C1, .dec 11 false, .call C3, .dec 17 false, .dec 22 false, .b false, .call C7, .dec 29 true, .call C9, .dec 33 false, .fin] (oc C1 (o1 (bnf c2) (oc C3 (o1 (bnf c4) (oF c5 (oF c6 (oc C7 (o1 c8 (oc C9 (o1 (eqf c10) on))))))))))
          · replace h := iq c8 h
            cases h
            exact rt func212 [.call C1, .dec 11 false, .call C3, .dec 17 false, .dec 22 false, .b false, .call C7, .dec 29 false, .fin] (oc C1 (o1 (bnf c2) (oc C3 (o1 (bnf c4) (oF c5 (oF c6 (oc C7 (o1 (eqf c8) on))))))))
    · replace h := iq c4 h
      cases h
      exact rt func212 [.call C1, .dec 11 false, .call C3, .dec 17 true, .b true, .fin] (oc C1 (o1 (bnf c2) (oc C3 (oN c4 (oR on)))))
  · replace h := iq c2 h
    cases h
    exact rt func212 [.call C1, .dec 11 true, .b true, .fin] (oc C1 (oN c2 (oR on)))

/-! ### impl_AskOk: function 167 -/
def impl_AskOk.f (k : Nat) (a0 : S38) (a1 : List Int) (a2 : List Int) (a3 : Int) : Option Bool := (impl_isAsked.f k a0 a1 a2).bind fun t1 => if t1 = true then (if 0 ≤ a3 then (if a3 ≤ 20 then ((impl_FreeCells.f k a0).bind fun t2 => some (decide ((w64 ((t2.length : Int) * (w64 (a3 + 1)))) ≤ 240))) else (some false)) else (some false)) else (some false)
theorem impl_AskOk.go : Callable prog 167 := ⟨_, func167, by kernel_rfl, rfl⟩
theorem impl_AskOk.ok (k : Nat) (a0 : S38) (a1 : List Int) (a2 : List Int) (a3 : Int) (r : Bool) (h : impl_AskOk.f k a0 a1 a2 a3 = some r) : VCalls prog 167 [.agg (e38 a0), .c (R 1 (eI .i64) 0 a1), .c (R 1 (eI .i64) 0 a2), .c (iI a3)] [.c (.p (.sc (.bool r)))] := by
  unfold impl_AskOk.f at h
  refine VCalls.of (fn := f167) (N := 30) func167 rfl rfl (fun w0 => ?_)
  obtain ⟨t1, g1, h⟩ := bindN h
  let C1 := mkCon (impl_isAsked.ok k a0 a1 a2 t1 g1) impl_isAsked.go
  by_cases c2 : t1 = true
  · replace h := ip c2 h
    by_cases c3 : 0 ≤ a3
    · replace h := ip c3 h
      by_cases c4 : a3 ≤ 20
      · replace h := ip c4 h
        obtain ⟨t2, g5, h⟩ := bindN h
        let C5 := mkCon (impl_FreeCells.ok k a0 t2 g5) impl_FreeCells.go
        cases h
        exact rt func167 [.call C1, .dec 13 true, .dec 17 true, .dec 21 true, .call C5, .fin] (oc C1 (o1 c2 (oT c3 (oT c4 (oc C5 on)))))
      · replace h := iq c4 h
        cases h
        exact rt func167 [.call C1, .dec 13 true, .dec 17 true, .dec 21 false, .fin] (oc C1 (o1 c2 (oT c3 (oF c4 on))))
    · replace h := iq c3 h
      cases h
      exact rt func167 [.call C1, .dec 13 true, .dec 17 false, .fin] (oc C1 (o1 c2 (oF c3 on)))
  · replace h := iq c2 h
    cases h
    exact rt func167 [.call C1, .dec 13 false, .fin] (oc C1 (o1 (eqf c2) on))

/-! ### impl_formFault: function 168 -/
def impl_formFault.h0T (a0 : List Int) (a1 : S45) (v1 : Int) : List (Nat × AV) := [(0, .t (.c (.p false (R 1 (eI .i64) 0 a0)))), (3, .ptr 192 0), (14, .t (.c (.p false (R 1 e72 z72 a1.f2)))), (15, .t (.c (.p true (.sc (.int .i64 (a1.f2.length : Int)))))), (16, .t (.c (.p true (iI v1))))]
def impl_formFault.h0H (a0 : List Int) (a1 : S45) (v1 : Int) : List (Nat × Content) := [(192, .box 45 [.p false (iI a1.f0), .p false (iI a1.f1), .p false (R 1 e72 z72 a1.f2)])]
def impl_formFault.l0 : Nat → S45 → List Int → Int → Option Bool
  | 0, _, _, _ => none
  | kq + 1, a1, a0, v1 => if v1 < (a1.f2.length : Int) then (if 0 ≤ v1 then (if (((rdD z72 a1.f2 v1).f0).length : Int) = (w64 (a1.f0 + 1)) then (if 0 < (((rdD z72 a1.f2 v1).f0).length : Int) then (if v1 < (a0.length : Int) then (if (rdD 0 ((rdD z72 a1.f2 v1).f0) 0) = (rdD 0 a0 v1) then (impl_formFault.l0 kq a1 a0 (w64 (v1 + 1))) else (some true)) else none) else none) else (some true)) else none) else (some false)
def impl_formFault.f (k : Nat) (a0 : List Int) (a1 : S45) : Option Bool := if (a1.f2.length : Int) = (a0.length : Int) then (impl_formFault.l0 k a1 a0 0) else (some true)
theorem impl_formFault.go : Callable prog 168 := ⟨_, func168, by kernel_rfl, rfl⟩
theorem impl_formFault.ok (k : Nat) (a0 : List Int) (a1 : S45) (r : Bool) (h : impl_formFault.f k a0 a1 = some r) : VCalls prog 168 [.c (R 1 (eI .i64) 0 a0), .agg (e45 a1)] [.c (.p (.sc (.bool r)))] := by
  unfold impl_formFault.f at h
  refine VCalls.of (fn := f168) (N := 40) func168 rfl rfl (fun w0 => ?_)
  by_cases c1 : (a1.f2.length : Int) = (a0.length : Int)
  · replace h := ip c1 h
    have H0 : ∀ (kq : Nat) (v1 : Int), impl_formFault.l0 kq a1 a0 v1 = some r → AG prog 168 40 [.c (.p (.sc (.bool r)))] w0 (headStk (codeOf f168) 0) (mkFS (impl_formFault.h0T a0 a1 v1) (impl_formFault.h0H a0 a1 v1)) := by
      intro kq
      induction kq with
      | zero => intro v1 h; cases h
      | succ kq ih =>
        intro v1 h
        rw [impl_formFault.l0] at h
        by_cases c7 : v1 < (a1.f2.length : Int)
        · replace h := ip c7 h
          obtain ⟨c8, h⟩ := ifN h
          by_cases c9 : (((rdD z72 a1.f2 v1).f0).length : Int) = (w64 (a1.f0 + 1))
          · replace h := ip c9 h
            obtain ⟨c10, h⟩ := ifN h
            obtain ⟨c11, h⟩ := ifN h
            by_cases c12 : (rdD 0 ((rdD z72 a1.f2 v1).f0) 0) = (rdD 0 a0 v1)
            · replace h := ip c12 h
              exact hd func168 [.b true, .dec 28 false, .b false, .fin] (oT c7 (o1 c8 (o1 c7 (o1 (bnf (decide_eq_true c9)) (o1 (by decide : (0 : Int) ≤ 0) (o1 c10 (o1 c8 (o1 c11 (o1 (bnf (decide_eq_true c12)) on))))))))) (ih (w64 (v1 + 1)) h)
            · replace h := iq c12 h
              cases h
              exact rt func168 [.b true, .dec 28 false, .b true, .fin] (oT c7 (o1 c8 (o1 c7 (o1 (bnf (decide_eq_true c9)) (o1 (by decide : (0 : Int) ≤ 0) (o1 c10 (o1 c8 (o1 c11 (o1 (bnt (decide_eq_false c12)) on)))))))))
          · replace h := iq c9 h
            cases h
            exact rt func168 [.b true, .dec 28 true, .b true, .fin] (oT c7 (o1 c8 (o1 c7 (o1 (bnt (decide_eq_false c9)) (oR on)))))
        · replace h := iq c7 h
          cases h
          exact rt func168 [.b false, .fin, .fin] (oF c7 on)
    exact hd func168 [.b false, .fin] (o1 (bnf (decide_eq_true c1)) on) (H0 k 0 h)
  · replace h := iq c1 h
    cases h
    exact rt func168 [.b true, .fin] (o1 (bnt (decide_eq_false c1)) on)

/-! ### impl_stepFault: function 169 -/
def impl_stepFault.h1T (a1 : List S72) (v7 : Int) (v9 : Int) (a0 : S38) : List (Nat × AV) := [(2, .ptr 128 0), (6, .ptr 384 0), (9, .t (.c (.p false (R 1 e72 z72 a1)))), (10, .t (.c (.p true (.sc (.int .i64 (a1.length : Int)))))), (11, .t (.c (.p true (iI v7)))), (16, .t (.c (.p false (R 1 (eI .i64) 0 ((rdD z72 a1 v7).f0))))), (17, .t (.c (.p true (.sc (.int .i64 (((rdD z72 a1 v7).f0).length : Int)))))), (18, .t (.c (.p true (iI v9))))]
def impl_stepFault.h1H (a1 : List S72) (v7 : Int) (v9 : Int) (a0 : S38) : List (Nat × Content) := [(128, .box 38 [.p false (iI a0.f0), .p false (iI a0.f1), .p false (.sc (.string a0.f2))]), (384, .box 72 [.p false (R 1 (eI .i64) 0 ((rdD z72 a1 v7).f0))])]
def impl_stepFault.x1T (a1 : List S72) (v7 : Int) (a0 : S38) : List (Nat × AV) := [(2, .ptr 128 0), (9, .t (.c (.p false (R 1 e72 z72 a1)))), (10, .t (.c (.p true (.sc (.int .i64 (a1.length : Int)))))), (11, .t (.c (.p true (iI v7))))]
def impl_stepFault.x1H (a1 : List S72) (v7 : Int) (a0 : S38) : List (Nat × Content) := [(128, .box 38 [.p false (iI a0.f0), .p false (iI a0.f1), .p false (.sc (.string a0.f2))])]
def impl_stepFault.l1 : Nat → List S72 → Int → S38 → Int → Option (Bool ⊕ Unit)
  | 0, _, _, _, _ => none
  | kq + 1, a1, v7, a0, v9 => if v9 < (((rdD z72 a1 v7).f0).length : Int) then (if 0 ≤ v9 then ((impl_isFree.f a0 (rdD 0 ((rdD z72 a1 v7).f0) v9)).bind fun t10 => if t10 = true then (if 0 < v9 then (if 0 ≤ (w64 (v9 - 1)) then (if (w64 (v9 - 1)) < (((rdD z72 a1 v7).f0).length : Int) then (if (rdD 0 ((rdD z72 a1 v7).f0) v9) = (rdD 0 ((rdD z72 a1 v7).f0) (w64 (v9 - 1))) then (impl_stepFault.l1 kq a1 v7 a0 (w64 (v9 + 1))) else ((impl_around.f a0 (rdD 0 ((rdD z72 a1 v7).f0) (w64 (v9 - 1)))).bind fun t11 => (slices_Contains_int_int.f kq t11 (rdD 0 ((rdD z72 a1 v7).f0) v9)).bind fun t12 => if t12 = true then (impl_stepFault.l1 kq a1 v7 a0 (w64 (v9 + 1))) else (some (.inl true)))) else none) else none) else (impl_stepFault.l1 kq a1 v7 a0 (w64 (v9 + 1)))) else (some (.inl true))) else none) else (some (.inr ()))
def impl_stepFault.h0T (a1 : List S72) (v7 : Int) (a0 : S38) : List (Nat × AV) := [(2, .ptr 128 0), (9, .t (.c (.p false (R 1 e72 z72 a1)))), (10, .t (.c (.p true (.sc (.int .i64 (a1.length : Int)))))), (11, .t (.c (.p true (iI v7))))]
def impl_stepFault.h0H (a1 : List S72) (v7 : Int) (a0 : S38) : List (Nat × Content) := [(128, .box 38 [.p false (iI a0.f0), .p false (iI a0.f1), .p false (.sc (.string a0.f2))])]
def impl_stepFault.l0 : Nat → List S72 → S38 → Int → Option Bool
  | 0, _, _, _ => none
  | kq + 1, a1, a0, v7 => if v7 < (a1.length : Int) then (if 0 ≤ v7 then ((impl_stepFault.l1 kq a1 v7 a0 0).bind fun x40 => match x40 with | .inl r => some r | .inr y13 => (impl_stepFault.l0 kq a1 a0 (w64 (v7 + 1)))) else none) else (some false)
def impl_stepFault.f (k : Nat) (a0 : S38) (a1 : List S72) : Option Bool := impl_stepFault.l0 k a1 a0 0
theorem impl_stepFault.go : Callable prog 169 := ⟨_, func169, by kernel_rfl, rfl⟩
theorem impl_stepFault.ok (k : Nat) (a0 : S38) (a1 : List S72) (r : Bool) (h : impl_stepFault.f k a0 a1 = some r) : VCalls prog 169 [.agg (e38 a0), .c (R 1 e72 z72 a1)] [.c (.p (.sc (.bool r)))] := by
  unfold impl_stepFault.f at h
  refine VCalls.of (fn := f169) (N := 56) func169 rfl rfl (fun w0 => ?_)
  have H0 : ∀ (kq : Nat) (v7 : Int), impl_stepFault.l0 kq a1 a0 v7 = some r → AG prog 169 56 [.c (.p (.sc (.bool r)))] w0 (headStk (codeOf f169) 0) (mkFS (impl_stepFault.h0T a1 v7 a0) (impl_stepFault.h0H a1 v7 a0)) := by
    intro kq
    induction kq with
    | zero => intro v7 h; cases h
    | succ kq ih =>
      intro v7 h
      rw [impl_stepFault.l0] at h
      by_cases c20 : v7 < (a1.length : Int)
      · replace h := ip c20 h
        obtain ⟨c21, h⟩ := ifN h
        have H1 : ∀ (kq : Nat) (v9 : Int) (x : (Bool ⊕ Unit)), impl_stepFault.l1 kq a1 v7 a0 v9 = some x → (match x with | .inl r' => r' = r | .inr y13 => AG prog 169 56 [.c (.p (.sc (.bool r)))] w0 (exitStk (codeOf f169) 1) (mkFS (impl_stepFault.x1T a1 v7 a0) (impl_stepFault.x1H a1 v7 a0))) → AG prog 169 56 [.c (.p (.sc (.bool r)))] w0 (headStk (codeOf f169) 1) (mkFS (impl_stepFault.h1T a1 v7 v9 a0) (impl_stepFault.h1H a1 v7 v9 a0)) := by
          intro kq
          induction kq with
          | zero => intro v9 x h hx; cases h
          | succ kq ih =>
            intro v9 x h hx
            rw [impl_stepFault.l1] at h
            by_cases c29 : v9 < (((rdD z72 a1 v7).f0).length : Int)
            · replace h := ip c29 h
              obtain ⟨c30, h⟩ := ifN h
              obtain ⟨t10, g31, h⟩ := bindN h
              let C31 := mkCon (impl_isFree.ok a0 (rdD 0 ((rdD z72 a1 v7).f0) v9) t10 g31) impl_isFree.go
              by_cases c32 : t10 = true
              · replace h := ip c32 h
                by_cases c33 : 0 < v9
                · replace h := ip c33 h
                  obtain ⟨c34, h⟩ := ifN h
                  obtain ⟨c35, h⟩ := ifN h
                  by_cases c36 : (rdD 0 ((rdD z72 a1 v7).f0) v9) = (rdD 0 ((rdD z72 a1 v7).f0) (w64 (v9 - 1)))
                  · replace h := ip c36 h
                    exact hd func169 [.b true, .call C31, .dec 27 false, .dec 30 true, .dec 40 false, .b false, .fin] (oT c29 (o1 c30 (o1 c29 (oc C31 (o1 (bnf c32) (oT c33 (o1 c34 (o1 c35 (o1 (bnf (decide_eq_true c36)) (o1 (rfl : false = false) on)))))))))) (ih (w64 (v9 + 1)) _ h hx)
                  · replace h := iq c36 h
                    obtain ⟨t11, g37, h⟩ := bindN h
                    let C37 := mkCon (impl_around.ok a0 (rdD 0 ((rdD z72 a1 v7).f0) (w64 (v9 - 1))) t11 g37) impl_around.go
                    obtain ⟨t12, g38, h⟩ := bindN h
                    let C38 := mkCon (slices_Contains_int_int.ok kq t11 (rdD 0 ((rdD z72 a1 v7).f0) v9) t12 g38) slices_Contains_int_int.go
                    by_cases c39 : t12 = true
                    · replace h := ip c39 h
                      exact hd func169 [.b true, .call C31, .dec 27 false, .dec 30 true, .dec 40 true, .call C37, .call C38, .b false, .fin] (oT c29 (o1 c30 (o1 c29 (oc C31 (o1 (bnf c32) (oT c33 (o1 c34 (o1 c35 (o1 (bnt (decide_eq_false c36)) (o1 c34 (o1 c35 (oc C37 (oc C38 (o1 (bnf c39) on)))))))))))))) (ih (w64 (v9 + 1)) _ h hx)
                    · replace h := iq c39 h
                      cases h
                      subst hx
                      exact rt func169 [.b true, .call C31, .dec 27 false, .dec 30 true, .dec 40 true, .call C37, .call C38, .b true, .fin] (oT c29 (o1 c30 (o1 c29 (oc C31 (o1 (bnf c32) (oT c33 (o1 c34 (o1 c35 (o1 (bnt (decide_eq_false c36)) (o1 c34 (o1 c35 (oc C37 (oc C38 (oN c39 on))))))))))))))
                · replace h := iq c33 h
                  exact hd func169 [.b true, .call C31, .dec 27 false, .dec 30 false, .b false, .fin] (oT c29 (o1 c30 (o1 c29 (oc C31 (o1 (bnf c32) (oF c33 (o1 (rfl : false = false) on))))))) (ih (w64 (v9 + 1)) _ h hx)
              · replace h := iq c32 h
                cases h
                subst hx
                exact rt func169 [.b true, .call C31, .dec 27 true, .b true, .fin] (oT c29 (o1 c30 (o1 c29 (oc C31 (oN c32 (oR on))))))
            · replace h := iq c29 h
              cases h
              exact st func169 [.b false, .fin] (oF c29 on) hx
        obtain ⟨x40, g40, h⟩ := bindN h
        cases x40 with
        | inl r' =>
          exact hd func169 [.b true, .fin] (oT c20 (o1 c21 (o1 c20 on))) (H1 kq 0 _ g40 (Option.some.inj h))
        | inr y13 =>
          refine hd func169 [.b true, .fin] (oT c20 (o1 c21 (o1 c20 on))) (H1 kq 0 _ g40 ?_)
          show AG prog 169 56 [.c (.p (.sc (.bool r)))] w0 (exitStk (codeOf f169) 1) (mkFS (impl_stepFault.x1T a1 v7 a0) (impl_stepFault.x1H a1 v7 a0))
          exact hd func169 [.fin] on (ih (w64 (v7 + 1)) h)
      · replace h := iq c20 h
        cases h
        exact rt func169 [.b false, .fin, .fin] (oF c20 on)
  exact hd func169 [.fin] on (H0 k 0 h)

/-! ### impl_areLevel_1: function 248 -/
def impl_areLevel_1.f (a0 : S72) (a1 : List S72) : Option Bool := if 0 < (a1.length : Int) then (some (!decide ((a0.f0.length : Int) = (((rdD z72 a1 0).f0).length : Int)))) else none
theorem impl_areLevel_1.go : Callable prog 248 := ⟨_, func248, by kernel_rfl, rfl⟩
theorem impl_areLevel_1.ok (a0 : S72) (a1 : List S72) (r : Bool) (h : impl_areLevel_1.f a0 a1 = some r) : VCalls prog 248 [.agg (e72 a0), .ptr [R 1 e72 z72 a1]] [.c (.p (.sc (.bool r)))] := by
  unfold impl_areLevel_1.f at h
  refine VCalls.of (fn := f248) (N := 13) func248 rfl rfl (fun w0 => ?_)
  obtain ⟨c1, h⟩ := ifN h
  cases h
  exact rt func248 [.fin] (o1 (by decide : (0 : Int) ≤ 0) (o1 c1 on))

/-! ### slices_IndexFunc_impl_Way_impl_Way_1: function 236 -/
def slices_IndexFunc_impl_Way_impl_Way_1.h0T (a0 : List S72) (gi1 : FuncId) (u1_0_0 : V) (v2 : Int) : List (Nat × AV) := [(0, .t (.c (.p false (R 1 e72 z72 a0)))), (1, .bfn gi1 [[u1_0_0]]), (7, .t (.c (.p true (.sc (.int .i64 (a0.length : Int)))))), (8, .t (.c (.p true (iI v2))))]
def slices_IndexFunc_impl_Way_impl_Way_1.h0H (a0 : List S72) (gi1 : FuncId) (u1_0_0 : V) (v2 : Int) : List (Nat × Content) := []
def slices_IndexFunc_impl_Way_impl_Way_1.l0 : Nat → List S72 → (S72 → Option Bool) → Int → Option Int
  | 0, _, _, _ => none
  | kq + 1, a0, p1, v2 => if v2 < (a0.length : Int) then (if 0 ≤ v2 then ((p1 (rdD z72 a0 v2)).bind fun t3 => if t3 = true then (some v2) else (slices_IndexFunc_impl_Way_impl_Way_1.l0 kq a0 p1 (w64 (v2 + 1)))) else none) else (some (-1))
def slices_IndexFunc_impl_Way_impl_Way_1.f (k : Nat) (a0 : List S72) (p1 : S72 → Option Bool) : Option Int := slices_IndexFunc_impl_Way_impl_Way_1.l0 k a0 p1 0
theorem slices_IndexFunc_impl_Way_impl_Way_1.go : Callable prog 236 := ⟨_, func236, by kernel_rfl, rfl⟩
theorem slices_IndexFunc_impl_Way_impl_Way_1.ok (k : Nat) (a0 : List S72) (p1 : S72 → Option Bool) (gi1 : FuncId) (u1_0_0 : V) (hp1 : ∀ x0 r, p1 x0 = some r → VCalls prog gi1 [.agg (e72 x0), .ptr [u1_0_0]] [.c (.p (.sc (.bool r)))]) (go1 : Callable prog gi1) (r : Int) (h : slices_IndexFunc_impl_Way_impl_Way_1.f k a0 p1 = some r) : VCalls prog 236 [.c (R 1 e72 z72 a0), .fn gi1 [[u1_0_0]]] [.c (.p (iI r))] := by
  unfold slices_IndexFunc_impl_Way_impl_Way_1.f at h
  refine VCalls.of (fn := f236) (N := 19) func236 rfl rfl (fun w0 => ?_)
  have H0 : ∀ (kq : Nat) (v2 : Int), slices_IndexFunc_impl_Way_impl_Way_1.l0 kq a0 p1 v2 = some r → AG prog 236 19 [.c (.p (iI r))] w0 (headStk (codeOf f236) 0) (mkFS (slices_IndexFunc_impl_Way_impl_Way_1.h0T a0 gi1 u1_0_0 v2) (slices_IndexFunc_impl_Way_impl_Way_1.h0H a0 gi1 u1_0_0 v2)) := by
    intro kq
    induction kq with
    | zero => intro v2 h; cases h
    | succ kq ih =>
      intro v2 h
      rw [slices_IndexFunc_impl_Way_impl_Way_1.l0] at h
      by_cases c4 : v2 < (a0.length : Int)
      · replace h := ip c4 h
        obtain ⟨c5, h⟩ := ifN h
        obtain ⟨t3, g6, h⟩ := bindN h
        let C6 := mkCon (hp1 (rdD z72 a0 v2) t3 g6) go1
        by_cases c7 : t3 = true
        · replace h := ip c7 h
          cases h
          exact rt func236 [.b true, .call C6, .b true, .fin] (oT c4 (o1 c5 (o1 c4 (oc C6 (o1 c7 on)))))
        · replace h := iq c7 h
          exact hd func236 [.b true, .call C6, .b false, .fin] (oT c4 (o1 c5 (o1 c4 (oc C6 (o1 (eqf c7) on))))) (ih (w64 (v2 + 1)) h)
      · replace h := iq c4 h
        cases h
        exact rt func236 [.b false, .fin, .fin] (oF c4 on)
  exact hd func236 [.fin] on (H0 k 0 h)

/-! ### slices_ContainsFunc_impl_Way_impl_Way_1: function 209 -/
def slices_ContainsFunc_impl_Way_impl_Way_1.f (k : Nat) (a0 : List S72) (p1 : S72 → Option Bool) : Option Bool := (slices_IndexFunc_impl_Way_impl_Way_1.f k a0 p1).bind fun t1 => some (decide (0 ≤ t1))
theorem slices_ContainsFunc_impl_Way_impl_Way_1.go : Callable prog 209 := ⟨_, func209, by kernel_rfl, rfl⟩
theorem slices_ContainsFunc_impl_Way_impl_Way_1.ok (k : Nat) (a0 : List S72) (p1 : S72 → Option Bool) (gi1 : FuncId) (u1_0_0 : V) (hp1 : ∀ x0 r, p1 x0 = some r → VCalls prog gi1 [.agg (e72 x0), .ptr [u1_0_0]] [.c (.p (.sc (.bool r)))]) (go1 : Callable prog gi1) (r : Bool) (h : slices_ContainsFunc_impl_Way_impl_Way_1.f k a0 p1 = some r) : VCalls prog 209 [.c (R 1 e72 z72 a0), .fn gi1 [[u1_0_0]]] [.c (.p (.sc (.bool r)))] := by
  unfold slices_ContainsFunc_impl_Way_impl_Way_1.f at h
  refine VCalls.of (fn := f209) (N := 9) func209 rfl rfl (fun w0 => ?_)
  obtain ⟨t1, g1, h⟩ := bindN h
  let C1 := mkCon (slices_IndexFunc_impl_Way_impl_Way_1.ok k a0 p1 gi1 u1_0_0 hp1 go1 t1 g1) slices_IndexFunc_impl_Way_impl_Way_1.go
  cases h
  exact rt func209 [.call C1, .fin] (oc C1 on)

/-! ### impl_areLevel: function 238 -/
def impl_areLevel.f (k : Nat) (a0 : List S72) : Option Bool := if 1 ≤ (a0.length : Int) then (if (a0.length : Int) ≤ 10 then ((slices_ContainsFunc_impl_Way_impl_Way_1.f k a0 (fun x3 => impl_areLevel_1.f x3 a0)).bind fun t1 => some (!t1)) else (some false)) else (some false)
theorem impl_areLevel.go : Callable prog 238 := ⟨_, func238, by kernel_rfl, rfl⟩
theorem impl_areLevel.ok (k : Nat) (a0 : List S72) (r : Bool) (h : impl_areLevel.f k a0 = some r) : VCalls prog 238 [.c (R 1 e72 z72 a0)] [.c (.p (.sc (.bool r)))] := by
  unfold impl_areLevel.f at h
  refine VCalls.of (fn := f238) (N := 17) func238 rfl rfl (fun w0 => ?_)
  by_cases c1 : 1 ≤ (a0.length : Int)
  · replace h := ip c1 h
    by_cases c2 : (a0.length : Int) ≤ 10
    · replace h := ip c2 h
      obtain ⟨t1, g4, h⟩ := bindN h
      let C4 := mkCon (slices_ContainsFunc_impl_Way_impl_Way_1.ok k a0 (fun x3 => impl_areLevel_1.f x3 a0) 248 (R 1 e72 z72 a0) (fun x3 r h => impl_areLevel_1.ok x3 a0 r h) impl_areLevel_1.go t1 g4) slices_ContainsFunc_impl_Way_impl_Way_1.go
      cases h
      exact rt func238 [.dec 6 true, .dec 11 true, .call C4, .fin] (oT c1 (oT c2 (oc C4 on)))
    · replace h := iq c2 h
      cases h
      exact rt func238 [.dec 6 true, .dec 11 false, .fin] (oT c1 (oF c2 on))
  · replace h := iq c1 h
    cases h
    exact rt func238 [.dec 6 false, .fin] (oF c1 on)

/-! ### impl_LevelWays: function 214 -/
def impl_LevelWays.f (k : Nat) (a0 : List S72) (a1 : Int) : Option Bool := (impl_areLevel.f k a0).bind fun t1 => if t1 = true then (if 0 ≤ a1 then (if 0 < (a0.length : Int) then (some (decide (a1 < (w64 ((((rdD z72 a0 0).f0).length : Int) - 1))))) else none) else (some false)) else (some false)
theorem impl_LevelWays.go : Callable prog 214 := ⟨_, func214, by kernel_rfl, rfl⟩
theorem impl_LevelWays.ok (k : Nat) (a0 : List S72) (a1 : Int) (r : Bool) (h : impl_LevelWays.f k a0 a1 = some r) : VCalls prog 214 [.c (R 1 e72 z72 a0), .c (iI a1)] [.c (.p (.sc (.bool r)))] := by
  unfold impl_LevelWays.f at h
  refine VCalls.of (fn := f214) (N := 21) func214 rfl rfl (fun w0 => ?_)
  obtain ⟨t1, g1, h⟩ := bindN h
  let C1 := mkCon (impl_areLevel.ok k a0 t1 g1) impl_areLevel.go
  by_cases c2 : t1 = true
  · replace h := ip c2 h
    by_cases c3 : 0 ≤ a1
    · replace h := ip c3 h
      obtain ⟨c4, h⟩ := ifN h
      cases h
      exact rt func214 [.call C1, .dec 7 true, .dec 11 true, .fin] (oc C1 (o1 c2 (oT c3 (o1 (by decide : (0 : Int) ≤ 0) (o1 c4 on)))))
    · replace h := iq c3 h
      cases h
      exact rt func214 [.call C1, .dec 7 true, .dec 11 false, .fin] (oc C1 (o1 c2 (oF c3 on)))
  · replace h := iq c2 h
    cases h
    exact rt func214 [.call C1, .dec 7 false, .fin] (oc C1 (o1 (eqf c2) on))

/-! ### impl_meets: function 215 -/
def impl_meets.h1T (a0 : List S72) (a1 : Int) (v3 : Int) (v4 : Int) : List (Nat × AV) := [(0, .t (.c (.p false (R 1 e72 z72 a0)))), (1, .t (.c (.p false (iI a1)))), (5, .t (.c (.p true (iI v3)))), (8, .t (.c (.p true (.sc (.int .i64 (a0.length : Int)))))), (9, .t (.c (.p true (iI v3)))), (15, .t (.c (.p true (.sc (.int .i64 (((a0.drop (0 : Int).toNat).take (v3.toNat - (0 : Int).toNat)).length : Int)))))), (16, .t (.c (.p true (iI v4))))]
def impl_meets.h1H (a0 : List S72) (a1 : Int) (v3 : Int) (v4 : Int) : List (Nat × Content) := []
def impl_meets.x1T (a0 : List S72) (a1 : Int) (v3 : Int) : List (Nat × AV) := [(0, .t (.c (.p false (R 1 e72 z72 a0)))), (1, .t (.c (.p false (iI a1)))), (8, .t (.c (.p true (.sc (.int .i64 (a0.length : Int)))))), (9, .t (.c (.p true (iI v3))))]
def impl_meets.x1H (a0 : List S72) (a1 : Int) (v3 : Int) : List (Nat × Content) := []
def impl_meets.l1 : Nat → List S72 → Int → Int → Int → Option (Bool ⊕ Unit)
  | 0, _, _, _, _ => none
  | kq + 1, a0, v3, a1, v4 => if v4 < (((a0.drop (0 : Int).toNat).take (v3.toNat - (0 : Int).toNat)).length : Int) then (if 0 ≤ a1 then (if a1 < (((rdD z72 a0 v3).f0).length : Int) then (if 0 ≤ v4 then (if v4 < (a0.length : Int) then (if a1 < (((rdD z72 a0 v4).f0).length : Int) then (if (rdD 0 ((rdD z72 a0 v3).f0) a1) = (rdD 0 ((rdD z72 a0 v4).f0) a1) then (some (.inl true)) else (impl_meets.l1 kq a0 v3 a1 (w64 (v4 + 1)))) else none) else none) else none) else none) else none) else (some (.inr ()))
def impl_meets.h0T (a0 : List S72) (a1 : Int) (v3 : Int) : List (Nat × AV) := [(0, .t (.c (.p false (R 1 e72 z72 a0)))), (1, .t (.c (.p false (iI a1)))), (8, .t (.c (.p true (.sc (.int .i64 (a0.length : Int)))))), (9, .t (.c (.p true (iI v3))))]
def impl_meets.h0H (a0 : List S72) (a1 : Int) (v3 : Int) : List (Nat × Content) := []
def impl_meets.l0 : Nat → List S72 → Int → Int → Option Bool
  | 0, _, _, _ => none
  | kq + 1, a0, a1, v3 => if v3 < (a0.length : Int) then (if 0 ≤ v3 then (if v3 ≤ (a0.length : Int) then ((impl_meets.l1 kq a0 v3 a1 0).bind fun x30 => match x30 with | .inl r => some r | .inr y5 => (impl_meets.l0 kq a0 a1 (w64 (v3 + 1)))) else none) else none) else (some false)
def impl_meets.f (k : Nat) (a0 : List S72) (a1 : Int) : Option Bool := impl_meets.l0 k a0 a1 0
theorem impl_meets.go : Callable prog 215 := ⟨_, func215, by kernel_rfl, rfl⟩
theorem impl_meets.ok (k : Nat) (a0 : List S72) (a1 : Int) (r : Bool) (h : impl_meets.f k a0 a1 = some r) : VCalls prog 215 [.c (R 1 e72 z72 a0), .c (iI a1)] [.c (.p (.sc (.bool r)))] := by
  unfold impl_meets.f at h
  refine VCalls.of (fn := f215) (N := 38) func215 rfl rfl (fun w0 => ?_)
  have H0 : ∀ (kq : Nat) (v3 : Int), impl_meets.l0 kq a0 a1 v3 = some r → AG prog 215 38 [.c (.p (.sc (.bool r)))] w0 (headStk (codeOf f215) 0) (mkFS (impl_meets.h0T a0 a1 v3) (impl_meets.h0H a0 a1 v3)) := by
    intro kq
    induction kq with
    | zero => intro v3 h; cases h
    | succ kq ih =>
      intro v3 h
      rw [impl_meets.l0] at h
      by_cases c14 : v3 < (a0.length : Int)
      · replace h := ip c14 h
        obtain ⟨c15, h⟩ := ifN h
        obtain ⟨c16, h⟩ := ifN h
        have H1 : ∀ (kq : Nat) (v4 : Int) (x : (Bool ⊕ Unit)), impl_meets.l1 kq a0 v3 a1 v4 = some x → (match x with | .inl r' => r' = r | .inr y5 => AG prog 215 38 [.c (.p (.sc (.bool r)))] w0 (exitStk (codeOf f215) 1) (mkFS (impl_meets.x1T a0 a1 v3) (impl_meets.x1H a0 a1 v3))) → AG prog 215 38 [.c (.p (.sc (.bool r)))] w0 (headStk (codeOf f215) 1) (mkFS (impl_meets.h1T a0 a1 v3 v4) (impl_meets.h1H a0 a1 v3 v4)) := by
          intro kq
          induction kq with
          | zero => intro v4 x h hx; cases h
          | succ kq ih =>
            intro v4 x h hx
            rw [impl_meets.l1] at h
            by_cases c23 : v4 < (((a0.drop (0 : Int).toNat).take (v3.toNat - (0 : Int).toNat)).length : Int)
            · replace h := ip c23 h
              obtain ⟨c24, h⟩ := ifN h
              obtain ⟨c25, h⟩ := ifN h
              obtain ⟨c26, h⟩ := ifN h
              obtain ⟨c27, h⟩ := ifN h
              obtain ⟨c28, h⟩ := ifN h
              by_cases c29 : (rdD 0 ((rdD z72 a0 v3).f0) a1) = (rdD 0 ((rdD z72 a0 v4).f0) a1)
              · replace h := ip c29 h
                cases h
                subst hx
                exact rt func215 [.b true, .b true, .fin] (oT c23 (o1 c15 (o1 c14 (o1 c24 (o1 c25 (o1 c26 (o1 c27 (o1 c24 (o1 c28 (oT c29 on))))))))))
              · replace h := iq c29 h
                exact hd func215 [.b true, .b false, .fin] (oT c23 (o1 c15 (o1 c14 (o1 c24 (o1 c25 (o1 c26 (o1 c27 (o1 c24 (o1 c28 (oF c29 on)))))))))) (ih (w64 (v4 + 1)) _ h hx)
            · replace h := iq c23 h
              cases h
              exact st func215 [.b false, .fin] (oF c23 on) hx
        obtain ⟨x30, g30, h⟩ := bindN h
        cases x30 with
        | inl r' =>
          exact hd func215 [.b true, .cst 14 (R 1 e72 z72 ((a0.drop (0 : Int).toNat).take (v3.toNat - (0 : Int).toNat))), .fin] (oT c14 (o1 (by decide : (0 : Int) ≤ 0) (o1 c15 (o1 c16 (o1 (VE.cut (z := 1) (e := e72) (d := z72) a0 (n := a0.length) (lo := 0) (hi := v3) rfl (by decide : (0 : Int) ≤ 0) c15 c16) on))))) (H1 kq 0 _ g30 (Option.some.inj h))
        | inr y5 =>
          refine hd func215 [.b true, .cst 14 (R 1 e72 z72 ((a0.drop (0 : Int).toNat).take (v3.toNat - (0 : Int).toNat))), .fin] (oT c14 (o1 (by decide : (0 : Int) ≤ 0) (o1 c15 (o1 c16 (o1 (VE.cut (z := 1) (e := e72) (d := z72) a0 (n := a0.length) (lo := 0) (hi := v3) rfl (by decide : (0 : Int) ≤ 0) c15 c16) on))))) (H1 kq 0 _ g30 ?_)
          show AG prog 215 38 [.c (.p (.sc (.bool r)))] w0 (exitStk (codeOf f215) 1) (mkFS (impl_meets.x1T a0 a1 v3) (impl_meets.x1H a0 a1 v3))
          exact hd func215 [.fin] on (ih (w64 (v3 + 1)) h)
      · replace h := iq c14 h
        cases h
        exact rt func215 [.b false, .fin, .fin] (oF c14 on)
  exact hd func215 [.fin] on (H0 k 0 h)

/-! ### impl_MeetAt: function 172 -/
def impl_MeetAt.f (k : Nat) (a0 : List S72) (a1 : Int) : Option Bool := (impl_LevelWays.f k a0 a1).bind fun t1 => if t1 = true then ((impl_meets.f k a0 a1).bind fun t2 => if t2 = true then (some true) else ((impl_meets.f k a0 (w64 (a1 + 1))).bind fun t3 => some t3)) else (some false)
theorem impl_MeetAt.go : Callable prog 172 := ⟨_, func172, by kernel_rfl, rfl⟩
theorem impl_MeetAt.ok (k : Nat) (a0 : List S72) (a1 : Int) (r : Bool) (h : impl_MeetAt.f k a0 a1 = some r) : VCalls prog 172 [.c (R 1 e72 z72 a0), .c (iI a1)] [.c (.p (.sc (.bool r)))] := by
  unfold impl_MeetAt.f at h
  refine VCalls.of (fn := f172) (N := 19) func172 rfl rfl (fun w0 => ?_)
  obtain ⟨t1, g1, h⟩ := bindN h
  let C1 := mkCon (impl_LevelWays.ok k a0 a1 t1 g1) impl_LevelWays.go
  by_cases c2 : t1 = true
  · replace h := ip c2 h
    obtain ⟨t2, g3, h⟩ := bindN h
    let C3 := mkCon (impl_meets.ok k a0 a1 t2 g3) impl_meets.go
    by_cases c4 : t2 = true
    · replace h := ip c4 h
      cases h
      exact rt func172 [.call C1, .dec 8 true, .call C3, .dec 12 true, .fin] (oc C1 (o1 c2 (oc C3 (o1 c4 on))))
    · replace h := iq c4 h
      obtain ⟨t3, g5, h⟩ := bindN h
      let C5 := mkCon (impl_meets.ok k a0 (w64 (a1 + 1)) t3 g5) impl_meets.go
      cases h
      exact rt func172 [.call C1, .dec 8 true, .call C3, .dec 12 false, .call C5, .fin] (oc C1 (o1 c2 (oc C3 (o1 (eqf c4) (oc C5 on)))))
  · replace h := iq c2 h
    cases h
    exact rt func172 [.call C1, .dec 8 false, .fin] (oc C1 (o1 (eqf c2) on))

/-! ### impl_PlanFault_1: function 171 -/
def impl_PlanFault_1.f (k : Nat) (a0 : Int) (a1 : S45) : Option Bool := (impl_MeetAt.f k a1.f2 a0).bind fun t1 => some t1
theorem impl_PlanFault_1.go : Callable prog 171 := ⟨_, func171, by kernel_rfl, rfl⟩
theorem impl_PlanFault_1.ok (k : Nat) (a0 : Int) (a1 : S45) (r : Bool) (h : impl_PlanFault_1.f k a0 a1 = some r) : VCalls prog 171 [.c (iI a0), .ptr [.sc (.int .i64 a1.f0), .sc (.int .i64 a1.f1), R 1 e72 z72 a1.f2]] [.c (.p (.sc (.bool r)))] := by
  unfold impl_PlanFault_1.f at h
  refine VCalls.of (fn := f171) (N := 8) func171 rfl rfl (fun w0 => ?_)
  obtain ⟨t1, g1, h⟩ := bindN h
  let C1 := mkCon (impl_MeetAt.ok k a1.f2 a0 t1 g1) impl_MeetAt.go
  cases h
  exact rt func171 [.call C1, .fin] (oc C1 on)

/-! ### impl_someTime_3: function 170 -/
def impl_someTime_3.h0T (a0 : Int) (gi1 : FuncId) (u1_0_0 : V) (u1_0_1 : V) (u1_0_2 : V) (v2 : Int) : List (Nat × AV) := [(0, .t (.c (.p false (iI a0)))), (1, .bfn gi1 [[u1_0_0, u1_0_1, u1_0_2]]), (5, .t (.c (.p true (iI v2))))]
def impl_someTime_3.h0H (a0 : Int) (gi1 : FuncId) (u1_0_0 : V) (u1_0_1 : V) (u1_0_2 : V) (v2 : Int) : List (Nat × Content) := []
def impl_someTime_3.l0 : Nat → Int → (Int → Option Bool) → Int → Option Bool
  | 0, _, _, _ => none
  | kq + 1, a0, p1, v2 => if v2 < a0 then ((p1 v2).bind fun t3 => if t3 = true then (some true) else (impl_someTime_3.l0 kq a0 p1 (w64 (v2 + 1)))) else (some false)
def impl_someTime_3.f (k : Nat) (a0 : Int) (p1 : Int → Option Bool) : Option Bool := impl_someTime_3.l0 k a0 p1 0
theorem impl_someTime_3.go : Callable prog 170 := ⟨_, func170, by kernel_rfl, rfl⟩
theorem impl_someTime_3.ok (k : Nat) (a0 : Int) (p1 : Int → Option Bool) (gi1 : FuncId) (u1_0_0 u1_0_1 u1_0_2 : V) (hp1 : ∀ x0 r, p1 x0 = some r → VCalls prog gi1 [.c (iI x0), .ptr [u1_0_0, u1_0_1, u1_0_2]] [.c (.p (.sc (.bool r)))]) (go1 : Callable prog gi1) (r : Bool) (h : impl_someTime_3.f k a0 p1 = some r) : VCalls prog 170 [.c (iI a0), .fn gi1 [[u1_0_0, u1_0_1, u1_0_2]]] [.c (.p (.sc (.bool r)))] := by
  unfold impl_someTime_3.f at h
  refine VCalls.of (fn := f170) (N := 14) func170 rfl rfl (fun w0 => ?_)
  have H0 : ∀ (kq : Nat) (v2 : Int), impl_someTime_3.l0 kq a0 p1 v2 = some r → AG prog 170 14 [.c (.p (.sc (.bool r)))] w0 (headStk (codeOf f170) 0) (mkFS (impl_someTime_3.h0T a0 gi1 u1_0_0 u1_0_1 u1_0_2 v2) (impl_someTime_3.h0H a0 gi1 u1_0_0 u1_0_1 u1_0_2 v2)) := by
    intro kq
    induction kq with
    | zero => intro v2 h; cases h
    | succ kq ih =>
      intro v2 h
      rw [impl_someTime_3.l0] at h
      by_cases c4 : v2 < a0
      · replace h := ip c4 h
        obtain ⟨t3, g5, h⟩ := bindN h
        let C5 := mkCon (hp1 v2 t3 g5) go1
        by_cases c6 : t3 = true
        · replace h := ip c6 h
          cases h
          exact rt func170 [.b true, .call C5, .b true, .fin] (oT c4 (oc C5 (o1 c6 on)))
        · replace h := iq c6 h
          exact hd func170 [.b true, .call C5, .b false, .fin] (oT c4 (oc C5 (o1 (eqf c6) on))) (ih (w64 (v2 + 1)) h)
      · replace h := iq c4 h
        cases h
        exact rt func170 [.b false, .fin, .fin] (oF c4 on)
  exact hd func170 [.fin] on (H0 k 0 h)

/-! ### impl_nextOf_1: function 239 -/
def impl_nextOf_1.f (a0 : S72) (a1 : Int) (a2 : S72) : Option Bool := if 0 ≤ a1 then (if a1 < (a0.f0.length : Int) then (if 0 ≤ (w64 (a1 + 1)) then (if (w64 (a1 + 1)) < (a2.f0.length : Int) then (some (decide ((rdD 0 a0.f0 a1) = (rdD 0 a2.f0 (w64 (a1 + 1)))))) else none) else none) else none) else none
theorem impl_nextOf_1.go : Callable prog 239 := ⟨_, func239, by kernel_rfl, rfl⟩
theorem impl_nextOf_1.ok (a0 : S72) (a1 : Int) (a2 : S72) (r : Bool) (h : impl_nextOf_1.f a0 a1 a2 = some r) : VCalls prog 239 [.agg (e72 a0), .ptr [.sc (.int .i64 a1)], .ptr [R 1 (eI .i64) 0 a2.f0]] [.c (.p (.sc (.bool r)))] := by
  unfold impl_nextOf_1.f at h
  refine VCalls.of (fn := f239) (N := 17) func239 rfl rfl (fun w0 => ?_)
  obtain ⟨c1, h⟩ := ifN h
  obtain ⟨c2, h⟩ := ifN h
  obtain ⟨c3, h⟩ := ifN h
  obtain ⟨c4, h⟩ := ifN h
  cases h
  exact rt func239 [.fin] (o1 c1 (o1 c2 (o1 c3 (o1 c4 on))))

/-! ### slices_IndexFunc_impl_Way_impl_Way_1_1: function 236 -/
def slices_IndexFunc_impl_Way_impl_Way_1_1.h0T (a0 : List S72) (gi1 : FuncId) (u1_0_0 : V) (u1_1_0 : V) (v2 : Int) : List (Nat × AV) := [(0, .t (.c (.p false (R 1 e72 z72 a0)))), (1, .bfn gi1 [[u1_0_0], [u1_1_0]]), (7, .t (.c (.p true (.sc (.int .i64 (a0.length : Int)))))), (8, .t (.c (.p true (iI v2))))]
def slices_IndexFunc_impl_Way_impl_Way_1_1.h0H (a0 : List S72) (gi1 : FuncId) (u1_0_0 : V) (u1_1_0 : V) (v2 : Int) : List (Nat × Content) := []
def slices_IndexFunc_impl_Way_impl_Way_1_1.l0 : Nat → List S72 → (S72 → Option Bool) → Int → Option Int
  | 0, _, _, _ => none
  | kq + 1, a0, p1, v2 => if v2 < (a0.length : Int) then (if 0 ≤ v2 then ((p1 (rdD z72 a0 v2)).bind fun t3 => if t3 = true then (some v2) else (slices_IndexFunc_impl_Way_impl_Way_1_1.l0 kq a0 p1 (w64 (v2 + 1)))) else none) else (some (-1))
def slices_IndexFunc_impl_Way_impl_Way_1_1.f (k : Nat) (a0 : List S72) (p1 : S72 → Option Bool) : Option Int := slices_IndexFunc_impl_Way_impl_Way_1_1.l0 k a0 p1 0
theorem slices_IndexFunc_impl_Way_impl_Way_1_1.go : Callable prog 236 := ⟨_, func236, by kernel_rfl, rfl⟩
theorem slices_IndexFunc_impl_Way_impl_Way_1_1.ok (k : Nat) (a0 : List S72) (p1 : S72 → Option Bool) (gi1 : FuncId) (u1_0_0 u1_1_0 : V) (hp1 : ∀ x0 r, p1 x0 = some r → VCalls prog gi1 [.agg (e72 x0), .ptr [u1_0_0], .ptr [u1_1_0]] [.c (.p (.sc (.bool r)))]) (go1 : Callable prog gi1) (r : Int) (h : slices_IndexFunc_impl_Way_impl_Way_1_1.f k a0 p1 = some r) : VCalls prog 236 [.c (R 1 e72 z72 a0), .fn gi1 [[u1_0_0], [u1_1_0]]] [.c (.p (iI r))] := by
  unfold slices_IndexFunc_impl_Way_impl_Way_1_1.f at h
  refine VCalls.of (fn := f236) (N := 19) func236 rfl rfl (fun w0 => ?_)
  have H0 : ∀ (kq : Nat) (v2 : Int), slices_IndexFunc_impl_Way_impl_Way_1_1.l0 kq a0 p1 v2 = some r → AG prog 236 19 [.c (.p (iI r))] w0 (headStk (codeOf f236) 0) (mkFS (slices_IndexFunc_impl_Way_impl_Way_1_1.h0T a0 gi1 u1_0_0 u1_1_0 v2) (slices_IndexFunc_impl_Way_impl_Way_1_1.h0H a0 gi1 u1_0_0 u1_1_0 v2)) := by
    intro kq
    induction kq with
    | zero => intro v2 h; cases h
    | succ kq ih =>
      intro v2 h
      rw [slices_IndexFunc_impl_Way_impl_Way_1_1.l0] at h
      by_cases c4 : v2 < (a0.length : Int)
      · replace h := ip c4 h
        obtain ⟨c5, h⟩ := ifN h
        obtain ⟨t3, g6, h⟩ := bindN h
        let C6 := mkCon (hp1 (rdD z72 a0 v2) t3 g6) go1
        by_cases c7 : t3 = true
        · replace h := ip c7 h
          cases h
          exact rt func236 [.b true, .call C6, .b true, .fin] (oT c4 (o1 c5 (o1 c4 (oc C6 (o1 c7 on)))))
        · replace h := iq c7 h
          exact hd func236 [.b true, .call C6, .b false, .fin] (oT c4 (o1 c5 (o1 c4 (oc C6 (o1 (eqf c7) on))))) (ih (w64 (v2 + 1)) h)
      · replace h := iq c4 h
        cases h
        exact rt func236 [.b false, .fin, .fin] (oF c4 on)
  exact hd func236 [.fin] on (H0 k 0 h)

/-! ### impl_nextOf: function 216 -/
def impl_nextOf.h0T (a0 : List S72) (v8 : Int) (a1 : Int) (v7 : List Int) : List (Nat × AV) := [(0, .t (.c (.p false (R 1 e72 z72 a0)))), (3, .ptr 192 0), (5, .t (.c (.h 320320))), (17, .t (.c (.p false (R 1 e72 z72 a0)))), (18, .t (.c (.p true (.sc (.int .i64 (a0.length : Int)))))), (19, .t (.c (.p true (iI v8))))]
def impl_nextOf.h0H (a0 : List S72) (v8 : Int) (a1 : Int) (v7 : List Int) : List (Nat × Content) := [(192, .box 3 [.p false (iI a1)]), (320320, .row 3 1 v7.length (fun j => (eI .i64) (v7.getD j 0)) true)]
def impl_nextOf.l0 : Nat → List S72 → Int → List Int → Int → Option (List Int)
  | 0, _, _, _, _ => none
  | kq + 1, a0, a1, v7, v8 => if v8 < (a0.length : Int) then (if 0 ≤ v8 then ((slices_IndexFunc_impl_Way_impl_Way_1_1.f kq a0 (fun x20 => impl_nextOf_1.f x20 a1 (rdD z72 a0 v8))).bind fun t9 => if (v7.length + 1) * 8 ≤ 140737488355328 then (impl_nextOf.l0 kq a0 a1 (v7 ++ [t9]) (w64 (v8 + 1))) else none) else none) else (some v7)
def impl_nextOf.f (k : Nat) (a0 : List S72) (a1 : Int) : Option (List Int) := (impl_LevelWays.f k a0 a1).bind fun t1 => if t1 = true then ((impl_MeetAt.f k a0 a1).bind fun t2 => if t2 = true then (some ([] : List Int)) else (impl_nextOf.l0 k a0 a1 ([] : List Int) 0)) else (some ([] : List Int))
theorem impl_nextOf.go : Callable prog 216 := ⟨_, func216, by kernel_rfl, rfl⟩
theorem impl_nextOf.ok (k : Nat) (a0 : List S72) (a1 : Int) (r : (List Int)) (h : impl_nextOf.f k a0 a1 = some r) : VCalls prog 216 [.c (R 1 e72 z72 a0), .c (iI a1)] [.c (.own 3 1 r.length (fun j => (eI .i64) (r.getD j 0)))] := by
  unfold impl_nextOf.f at h
  refine VCalls.of (fn := f216) (N := 31) func216 rfl rfl (fun w0 => ?_)
  obtain ⟨t1, g1, h⟩ := bindN h
  let C1 := mkCon (impl_LevelWays.ok k a0 a1 t1 g1) impl_LevelWays.go
  by_cases c2 : t1 = true
  · replace h := ip c2 h
    obtain ⟨t2, g3, h⟩ := bindN h
    let C3 := mkCon (impl_MeetAt.ok k a0 a1 t2 g3) impl_MeetAt.go
    by_cases c4 : t2 = true
    · replace h := ip c4 h
      cases h
      exact rt func216 [.call C1, .dec 12 false, .call C3, .b true, .fin, .nil 4 384256 3 1, orow 384256 (eI .i64) 0 ([] : List Int)] (oc C1 (o1 (bnf c2) (oc C3 (o1 c4 (o1 (GE.nil (eI .i64) 0) on)))))
    · replace h := iq c4 h
      have H0 : ∀ (kq : Nat) (v7 : List Int) (v8 : Int), impl_nextOf.l0 kq a0 a1 v7 v8 = some r → AG prog 216 31 [.c (.own 3 1 r.length (fun j => (eI .i64) (r.getD j 0)))] w0 (headStk (codeOf f216) 0) (mkFS (impl_nextOf.h0T a0 v8 a1 v7) (impl_nextOf.h0H a0 v8 a1 v7)) := by
        intro kq
        induction kq with
        | zero => intro v7 v8 h; cases h
        | succ kq ih =>
          intro v7 v8 h
          rw [impl_nextOf.l0] at h
          by_cases c18 : v8 < (a0.length : Int)
          · replace h := ip c18 h
            obtain ⟨c19, h⟩ := ifN h
            obtain ⟨t9, g21, h⟩ := bindN h
            let C21 := mkCon (slices_IndexFunc_impl_Way_impl_Way_1_1.ok kq a0 (fun x20 => impl_nextOf_1.f x20 a1 (rdD z72 a0 v8)) 239 (iI a1) (R 1 (eI .i64) 0 ((rdD z72 a0 v8).f0)) (fun x20 r h => impl_nextOf_1.ok x20 a1 (rdD z72 a0 v8) r h) impl_nextOf_1.go t9 g21) slices_IndexFunc_impl_Way_impl_Way_1_1.go
            obtain ⟨c22, h⟩ := ifN h
            exact hd func216 [.b true, .call C21, rowe 27 (eI .i64) 0 ([t9]), .aft 28, orow 320320 (eI .i64) 0 (v7 ++ [t9]), .fin] (oT c18 (o1 c19 (o1 c18 (oc C21 (o1 (GE.lit 1 (eI .i64) 0 [t9] (by intro x; rfl)) (o1 c22 (o1 (GE.app (e := (eI .i64)) (d := 0) v7 ([t9]) rfl (fun _ _ => CE.refl _) rfl) on))))))) (ih (v7 ++ [t9]) (w64 (v8 + 1)) h)
          · replace h := iq c18 h
            cases h
            exact rt func216 [.b false, .fin, .fin] (oF c18 on)
      exact hd func216 [.call C1, .dec 12 false, .call C3, .b false, .fin, .nil 5 320320 3 1, orow 320320 (eI .i64) 0 ([] : List Int)] (oc C1 (o1 (bnf c2) (oc C3 (o1 (eqf c4) (o1 (GE.nil (eI .i64) 0) on))))) (H0 k ([] : List Int) 0 h)
  · replace h := iq c2 h
    cases h
    exact rt func216 [.call C1, .dec 12 true, .b true, .fin, .nil 4 384256 3 1, orow 384256 (eI .i64) 0 ([] : List Int)] (oc C1 (oN c2 (oR (o1 (GE.nil (eI .i64) 0) on))))

/-! ### impl_ringOf: function 217 -/
def impl_ringOf.h0T (a0 : List Int) (a1 : Int) (v2 : Int) (v3 : Int) : List (Nat × AV) := [(0, .t (.c (.p false (R 1 (eI .i64) 0 a0)))), (1, .t (.c (.p false (iI a1)))), (5, .t (.c (.p true (iI v2)))), (6, .t (.c (.p false (iI v3))))]
def impl_ringOf.h0H (a0 : List Int) (a1 : Int) (v2 : Int) (v3 : Int) : List (Nat × Content) := []
def impl_ringOf.l0 : Nat → Int → List Int → Int → Int → Option Int
  | 0, _, _, _, _ => none
  | kq + 1, a1, a0, v2, v3 => if v3 = a1 then (some v2) else (if v3 < 0 then (some 0) else (if (a0.length : Int) < v2 then (some 0) else (if 0 ≤ v3 then (if v3 < (a0.length : Int) then (impl_ringOf.l0 kq a1 a0 (w64 (v2 + 1)) (rdD 0 a0 v3)) else none) else none)))
def impl_ringOf.f (k : Nat) (a0 : List Int) (a1 : Int) : Option Int := if 0 ≤ a1 then (if a1 < (a0.length : Int) then (impl_ringOf.l0 k a1 a0 1 (rdD 0 a0 a1)) else none) else none
theorem impl_ringOf.go : Callable prog 217 := ⟨_, func217, by kernel_rfl, rfl⟩
theorem impl_ringOf.ok (k : Nat) (a0 : List Int) (a1 : Int) (r : Int) (h : impl_ringOf.f k a0 a1 = some r) : VCalls prog 217 [.c (R 1 (eI .i64) 0 a0), .c (iI a1)] [.c (.p (iI r))] := by
  unfold impl_ringOf.f at h
  refine VCalls.of (fn := f217) (N := 29) func217 rfl rfl (fun w0 => ?_)
  obtain ⟨c1, h⟩ := ifN h
  obtain ⟨c2, h⟩ := ifN h
  have H0 : ∀ (kq : Nat) (v2 : Int) (v3 : Int), impl_ringOf.l0 kq a1 a0 v2 v3 = some r → AG prog 217 29 [.c (.p (iI r))] w0 (headStk (codeOf f217) 0) (mkFS (impl_ringOf.h0T a0 a1 v2 v3) (impl_ringOf.h0H a0 a1 v2 v3)) := by
    intro kq
    induction kq with
    | zero => intro v2 v3 h; cases h
    | succ kq ih =>
      intro v2 v3 h
      rw [impl_ringOf.l0] at h
      by_cases c13 : v3 = a1
      · replace h := ip c13 h
        cases h
        exact rt func217 [.b false, .fin, .fin] (o1 (bnf (decide_eq_true c13)) on)
      · replace h := iq c13 h
        by_cases c14 : v3 < 0
        · replace h := ip c14 h
          cases h
          exact rt func217 [.b true, .dec 20 true, .b true, .fin] (o1 (bnt (decide_eq_false c13)) (oT c14 (oR on)))
        · replace h := iq c14 h
          by_cases c15 : (a0.length : Int) < v2
          · replace h := ip c15 h
            cases h
            exact rt func217 [.b true, .dec 20 false, .b true, .fin] (o1 (bnt (decide_eq_false c13)) (oF c14 (oT c15 on)))
          · replace h := iq c15 h
            obtain ⟨c16, h⟩ := ifN h
            obtain ⟨c17, h⟩ := ifN h
            exact hd func217 [.b true, .dec 20 false, .b false, .fin] (o1 (bnt (decide_eq_false c13)) (oF c14 (oF c15 (o1 c16 (o1 c17 on))))) (ih (w64 (v2 + 1)) (rdD 0 a0 v3) h)
  exact hd func217 [.fin] (o1 c1 (o1 c2 on)) (H0 k 1 (rdD 0 a0 a1) h)

/-! ### impl_SwapsAt: function 174 -/
def impl_SwapsAt.h0T (v6 : Int) (t1 : List Int) (v5 : Int) : List (Nat × AV) := [(5, .t (.c (.h 640))), (6, .t (.c (.p true (iI v6)))), (12, .t (.c (.p true (.sc (.int .i64 (t1.length : Int)))))), (13, .t (.c (.p true (iI v5))))]
def impl_SwapsAt.h0H (v6 : Int) (t1 : List Int) (v5 : Int) : List (Nat × Content) := [(640, .row 3 1 t1.length (fun j => (eI .i64) (t1.getD j 0)) true)]
def impl_SwapsAt.l0 : Nat → List Int → Int → Int → Option Int
  | 0, _, _, _ => none
  | kq + 1, t1, v5, v6 => if v5 < (t1.length : Int) then ((impl_ringOf.f kq t1 v5).bind fun t7 => if t7 = 2 then (impl_SwapsAt.l0 kq t1 (w64 (v5 + 1)) (w64 (v6 + 1))) else (impl_SwapsAt.l0 kq t1 (w64 (v5 + 1)) v6)) else (some (w64 (v6.tdiv 2)))
def impl_SwapsAt.f (k : Nat) (a0 : List S72) (a1 : Int) : Option Int := (impl_nextOf.f k a0 a1).bind fun t1 => impl_SwapsAt.l0 k t1 0 0
theorem impl_SwapsAt.go : Callable prog 174 := ⟨_, func174, by kernel_rfl, rfl⟩
theorem impl_SwapsAt.ok (k : Nat) (a0 : List S72) (a1 : Int) (r : Int) (h : impl_SwapsAt.f k a0 a1 = some r) : VCalls prog 174 [.c (R 1 e72 z72 a0), .c (iI a1)] [.c (.p (iI r))] := by
  unfold impl_SwapsAt.f at h
  refine VCalls.of (fn := f174) (N := 25) func174 rfl rfl (fun w0 => ?_)
  obtain ⟨t1, g1, h⟩ := bindN h
  let C1 := mkCon (impl_nextOf.ok k a0 a1 t1 g1) impl_nextOf.go
  have H0 : ∀ (kq : Nat) (v5 : Int) (v6 : Int), impl_SwapsAt.l0 kq t1 v5 v6 = some r → AG prog 174 25 [.c (.p (iI r))] w0 (headStk (codeOf f174) 0) (mkFS (impl_SwapsAt.h0T v6 t1 v5) (impl_SwapsAt.h0H v6 t1 v5)) := by
    intro kq
    induction kq with
    | zero => intro v5 v6 h; cases h
    | succ kq ih =>
      intro v5 v6 h
      rw [impl_SwapsAt.l0] at h
      by_cases c8 : v5 < (t1.length : Int)
      · replace h := ip c8 h
        obtain ⟨t7, g9, h⟩ := bindN h
        let C9 := mkCon (impl_ringOf.ok kq t1 v5 t7 g9) impl_ringOf.go
        by_cases c10 : t7 = 2
        · replace h := ip c10 h
          exact hd func174 [.b true, .call C9, .b true, .fin] (oT c8 (oc C9 (oT c10 on))) (ih (w64 (v5 + 1)) (w64 (v6 + 1)) h)
        · replace h := iq c10 h
          exact hd func174 [.b true, .call C9, .b false, .fin] (oT c8 (oc C9 (oF c10 on))) (ih (w64 (v5 + 1)) v6 h)
      · replace h := iq c8 h
        cases h
        exact rt func174 [.b false, .fin, .fin] (oF c8 (o1 (by decide : (2 : Int) ≠ 0) on))
  exact hd func174 [.call C1, .fin] (oc C1 on) (H0 k 0 0 h)

/-! ### impl_PlanFault_2: function 173 -/
def impl_PlanFault_2.f (k : Nat) (a0 : Int) (a1 : S45) : Option Bool := (impl_SwapsAt.f k a1.f2 a0).bind fun t1 => some (!decide (t1 = 0))
theorem impl_PlanFault_2.go : Callable prog 173 := ⟨_, func173, by kernel_rfl, rfl⟩
theorem impl_PlanFault_2.ok (k : Nat) (a0 : Int) (a1 : S45) (r : Bool) (h : impl_PlanFault_2.f k a0 a1 = some r) : VCalls prog 173 [.c (iI a0), .ptr [.sc (.int .i64 a1.f0), .sc (.int .i64 a1.f1), R 1 e72 z72 a1.f2]] [.c (.p (.sc (.bool r)))] := by
  unfold impl_PlanFault_2.f at h
  refine VCalls.of (fn := f173) (N := 9) func173 rfl rfl (fun w0 => ?_)
  obtain ⟨t1, g1, h⟩ := bindN h
  let C1 := mkCon (impl_SwapsAt.ok k a1.f2 a0 t1 g1) impl_SwapsAt.go
  cases h
  exact rt func173 [.call C1, .fin] (oc C1 on)

/-! ### impl_RingsAt: function 176 -/
def impl_RingsAt.h0T (v6 : Int) (t1 : List Int) (v5 : Int) : List (Nat × AV) := [(5, .t (.c (.h 640))), (6, .t (.c (.p true (iI v6)))), (12, .t (.c (.p true (.sc (.int .i64 (t1.length : Int)))))), (13, .t (.c (.p true (iI v5))))]
def impl_RingsAt.h0H (v6 : Int) (t1 : List Int) (v5 : Int) : List (Nat × Content) := [(640, .row 3 1 t1.length (fun j => (eI .i64) (t1.getD j 0)) true)]
def impl_RingsAt.l0 : Nat → List Int → Int → Int → Option Int
  | 0, _, _, _ => none
  | kq + 1, t1, v5, v6 => if v5 < (t1.length : Int) then ((impl_ringOf.f kq t1 v5).bind fun t7 => if 2 < t7 then (impl_RingsAt.l0 kq t1 (w64 (v5 + 1)) (w64 (v6 + 1))) else (impl_RingsAt.l0 kq t1 (w64 (v5 + 1)) v6)) else (some v6)
def impl_RingsAt.f (k : Nat) (a0 : List S72) (a1 : Int) : Option Int := (impl_nextOf.f k a0 a1).bind fun t1 => impl_RingsAt.l0 k t1 0 0
theorem impl_RingsAt.go : Callable prog 176 := ⟨_, func176, by kernel_rfl, rfl⟩
theorem impl_RingsAt.ok (k : Nat) (a0 : List S72) (a1 : Int) (r : Int) (h : impl_RingsAt.f k a0 a1 = some r) : VCalls prog 176 [.c (R 1 e72 z72 a0), .c (iI a1)] [.c (.p (iI r))] := by
  unfold impl_RingsAt.f at h
  refine VCalls.of (fn := f176) (N := 24) func176 rfl rfl (fun w0 => ?_)
  obtain ⟨t1, g1, h⟩ := bindN h
  let C1 := mkCon (impl_nextOf.ok k a0 a1 t1 g1) impl_nextOf.go
  have H0 : ∀ (kq : Nat) (v5 : Int) (v6 : Int), impl_RingsAt.l0 kq t1 v5 v6 = some r → AG prog 176 24 [.c (.p (iI r))] w0 (headStk (codeOf f176) 0) (mkFS (impl_RingsAt.h0T v6 t1 v5) (impl_RingsAt.h0H v6 t1 v5)) := by
    intro kq
    induction kq with
    | zero => intro v5 v6 h; cases h
    | succ kq ih =>
      intro v5 v6 h
      rw [impl_RingsAt.l0] at h
      by_cases c8 : v5 < (t1.length : Int)
      · replace h := ip c8 h
        obtain ⟨t7, g9, h⟩ := bindN h
        let C9 := mkCon (impl_ringOf.ok kq t1 v5 t7 g9) impl_ringOf.go
        by_cases c10 : 2 < t7
        · replace h := ip c10 h
          exact hd func176 [.b true, .call C9, .b true, .fin] (oT c8 (oc C9 (oT c10 on))) (ih (w64 (v5 + 1)) (w64 (v6 + 1)) h)
        · replace h := iq c10 h
          exact hd func176 [.b true, .call C9, .b false, .fin] (oT c8 (oc C9 (oF c10 on))) (ih (w64 (v5 + 1)) v6 h)
      · replace h := iq c8 h
        cases h
        exact rt func176 [.b false, .fin, .fin] (oF c8 on)
  exact hd func176 [.call C1, .fin] (oc C1 on) (H0 k 0 0 h)

/-! ### impl_PlanFault_3: function 175 -/
def impl_PlanFault_3.f (k : Nat) (a0 : Int) (a1 : S45) : Option Bool := (impl_RingsAt.f k a1.f2 a0).bind fun t1 => some (!decide (t1 = 0))
theorem impl_PlanFault_3.go : Callable prog 175 := ⟨_, func175, by kernel_rfl, rfl⟩
theorem impl_PlanFault_3.ok (k : Nat) (a0 : Int) (a1 : S45) (r : Bool) (h : impl_PlanFault_3.f k a0 a1 = some r) : VCalls prog 175 [.c (iI a0), .ptr [.sc (.int .i64 a1.f0), .sc (.int .i64 a1.f1), R 1 e72 z72 a1.f2]] [.c (.p (.sc (.bool r)))] := by
  unfold impl_PlanFault_3.f at h
  refine VCalls.of (fn := f175) (N := 9) func175 rfl rfl (fun w0 => ?_)
  obtain ⟨t1, g1, h⟩ := bindN h
  let C1 := mkCon (impl_RingsAt.ok k a1.f2 a0 t1 g1) impl_RingsAt.go
  cases h
  exact rt func175 [.call C1, .fin] (oc C1 on)

/-! ### impl_PlanFault_4: function 177 -/
def impl_PlanFault_4.f (k : Nat) (a0 : Int) (a1 : List Int) : Option Bool := (slices_Contains_int_int.f k a1 a0).bind fun t1 => some (!t1)
theorem impl_PlanFault_4.go : Callable prog 177 := ⟨_, func177, by kernel_rfl, rfl⟩
theorem impl_PlanFault_4.ok (k : Nat) (a0 : Int) (a1 : List Int) (r : Bool) (h : impl_PlanFault_4.f k a0 a1 = some r) : VCalls prog 177 [.c (iI a0), .ptr [R 1 (eI .i64) 0 a1]] [.c (.p (.sc (.bool r)))] := by
  unfold impl_PlanFault_4.f at h
  refine VCalls.of (fn := f177) (N := 8) func177 rfl rfl (fun w0 => ?_)
  obtain ⟨t1, g1, h⟩ := bindN h
  let C1 := mkCon (slices_Contains_int_int.ok k a1 a0 t1 g1) slices_Contains_int_int.go
  cases h
  exact rt func177 [.call C1, .fin] (oc C1 on)

/-! ### slices_IndexFunc_int_int_1: function 182 -/
def slices_IndexFunc_int_int_1.h0T (a0 : List Int) (gi1 : FuncId) (u1_0_0 : V) (v2 : Int) : List (Nat × AV) := [(0, .t (.c (.p false (R 1 (eI .i64) 0 a0)))), (1, .bfn gi1 [[u1_0_0]]), (7, .t (.c (.p true (.sc (.int .i64 (a0.length : Int)))))), (8, .t (.c (.p true (iI v2))))]
def slices_IndexFunc_int_int_1.h0H (a0 : List Int) (gi1 : FuncId) (u1_0_0 : V) (v2 : Int) : List (Nat × Content) := []
def slices_IndexFunc_int_int_1.l0 : Nat → List Int → (Int → Option Bool) → Int → Option Int
  | 0, _, _, _ => none
  | kq + 1, a0, p1, v2 => if v2 < (a0.length : Int) then (if 0 ≤ v2 then ((p1 (rdD 0 a0 v2)).bind fun t3 => if t3 = true then (some v2) else (slices_IndexFunc_int_int_1.l0 kq a0 p1 (w64 (v2 + 1)))) else none) else (some (-1))
def slices_IndexFunc_int_int_1.f (k : Nat) (a0 : List Int) (p1 : Int → Option Bool) : Option Int := slices_IndexFunc_int_int_1.l0 k a0 p1 0
theorem slices_IndexFunc_int_int_1.go : Callable prog 182 := ⟨_, func182, by kernel_rfl, rfl⟩
theorem slices_IndexFunc_int_int_1.ok (k : Nat) (a0 : List Int) (p1 : Int → Option Bool) (gi1 : FuncId) (u1_0_0 : V) (hp1 : ∀ x0 r, p1 x0 = some r → VCalls prog gi1 [.c (iI x0), .ptr [u1_0_0]] [.c (.p (.sc (.bool r)))]) (go1 : Callable prog gi1) (r : Int) (h : slices_IndexFunc_int_int_1.f k a0 p1 = some r) : VCalls prog 182 [.c (R 1 (eI .i64) 0 a0), .fn gi1 [[u1_0_0]]] [.c (.p (iI r))] := by
  unfold slices_IndexFunc_int_int_1.f at h
  refine VCalls.of (fn := f182) (N := 19) func182 rfl rfl (fun w0 => ?_)
  have H0 : ∀ (kq : Nat) (v2 : Int), slices_IndexFunc_int_int_1.l0 kq a0 p1 v2 = some r → AG prog 182 19 [.c (.p (iI r))] w0 (headStk (codeOf f182) 0) (mkFS (slices_IndexFunc_int_int_1.h0T a0 gi1 u1_0_0 v2) (slices_IndexFunc_int_int_1.h0H a0 gi1 u1_0_0 v2)) := by
    intro kq
    induction kq with
    | zero => intro v2 h; cases h
    | succ kq ih =>
      intro v2 h
      rw [slices_IndexFunc_int_int_1.l0] at h
      by_cases c4 : v2 < (a0.length : Int)
      · replace h := ip c4 h
        obtain ⟨c5, h⟩ := ifN h
        obtain ⟨t3, g6, h⟩ := bindN h
        let C6 := mkCon (hp1 (rdD 0 a0 v2) t3 g6) go1
        by_cases c7 : t3 = true
        · replace h := ip c7 h
          cases h
          exact rt func182 [.b true, .call C6, .b true, .fin] (oT c4 (o1 c5 (o1 c4 (oc C6 (o1 c7 on)))))
        · replace h := iq c7 h
          exact hd func182 [.b true, .call C6, .b false, .fin] (oT c4 (o1 c5 (o1 c4 (oc C6 (o1 (eqf c7) on))))) (ih (w64 (v2 + 1)) h)
      · replace h := iq c4 h
        cases h
        exact rt func182 [.b false, .fin, .fin] (oF c4 on)
  exact hd func182 [.fin] on (H0 k 0 h)

/-! ### slices_ContainsFunc_int_int_1: function 102 -/
def slices_ContainsFunc_int_int_1.f (k : Nat) (a0 : List Int) (p1 : Int → Option Bool) : Option Bool := (slices_IndexFunc_int_int_1.f k a0 p1).bind fun t1 => some (decide (0 ≤ t1))
theorem slices_ContainsFunc_int_int_1.go : Callable prog 102 := ⟨_, func102, by kernel_rfl, rfl⟩
theorem slices_ContainsFunc_int_int_1.ok (k : Nat) (a0 : List Int) (p1 : Int → Option Bool) (gi1 : FuncId) (u1_0_0 : V) (hp1 : ∀ x0 r, p1 x0 = some r → VCalls prog gi1 [.c (iI x0), .ptr [u1_0_0]] [.c (.p (.sc (.bool r)))]) (go1 : Callable prog gi1) (r : Bool) (h : slices_ContainsFunc_int_int_1.f k a0 p1 = some r) : VCalls prog 102 [.c (R 1 (eI .i64) 0 a0), .fn gi1 [[u1_0_0]]] [.c (.p (.sc (.bool r)))] := by
  unfold slices_ContainsFunc_int_int_1.f at h
  refine VCalls.of (fn := f102) (N := 9) func102 rfl rfl (fun w0 => ?_)
  obtain ⟨t1, g1, h⟩ := bindN h
  let C1 := mkCon (slices_IndexFunc_int_int_1.ok k a0 p1 gi1 u1_0_0 hp1 go1 t1 g1) slices_IndexFunc_int_int_1.go
  cases h
  exact rt func102 [.call C1, .fin] (oc C1 on)

/-! ### impl_movesAfter: function 218 -/
def impl_movesAfter.h0T (v2 : Int) (v3 : Int) (a0 : S72) : List (Nat × AV) := [(2, .ptr 128 0), (5, .t (.c (.p true (iI v2)))), (6, .t (.c (.p true (iI v3))))]
def impl_movesAfter.h0H (v2 : Int) (v3 : Int) (a0 : S72) : List (Nat × Content) := [(128, .box 72 [.p false (R 1 (eI .i64) 0 a0.f0)])]
def impl_movesAfter.l0 : Nat → S72 → Int → Int → Option Int
  | 0, _, _, _ => none
  | kq + 1, a0, v2, v3 => if v3 < (a0.f0.length : Int) then (if 0 ≤ v3 then (if 0 ≤ (w64 (v3 - 1)) then (if (w64 (v3 - 1)) < (a0.f0.length : Int) then (if (rdD 0 a0.f0 v3) = (rdD 0 a0.f0 (w64 (v3 - 1))) then (impl_movesAfter.l0 kq a0 v2 (w64 (v3 + 1))) else (impl_movesAfter.l0 kq a0 (w64 (v2 + 1)) (w64 (v3 + 1)))) else none) else none) else none) else (some v2)
def impl_movesAfter.f (k : Nat) (a0 : S72) (a1 : Int) : Option Int := impl_movesAfter.l0 k a0 0 (w64 ((if 0 > a1 then 0 else a1) + 1))
theorem impl_movesAfter.go : Callable prog 218 := ⟨_, func218, by kernel_rfl, rfl⟩
theorem impl_movesAfter.ok (k : Nat) (a0 : S72) (a1 : Int) (r : Int) (h : impl_movesAfter.f k a0 a1 = some r) : VCalls prog 218 [.agg (e72 a0), .c (iI a1)] [.c (.p (iI r))] := by
  unfold impl_movesAfter.f at h
  refine VCalls.of (fn := f218) (N := 32) func218 rfl rfl (fun w0 => ?_)
  have H0 : ∀ (kq : Nat) (v2 : Int) (v3 : Int), impl_movesAfter.l0 kq a0 v2 v3 = some r → AG prog 218 32 [.c (.p (iI r))] w0 (headStk (codeOf f218) 0) (mkFS (impl_movesAfter.h0T v2 v3 a0) (impl_movesAfter.h0H v2 v3 a0)) := by
    intro kq
    induction kq with
    | zero => intro v2 v3 h; cases h
    | succ kq ih =>
      intro v2 v3 h
      rw [impl_movesAfter.l0] at h
      by_cases c11 : v3 < (a0.f0.length : Int)
      · replace h := ip c11 h
        obtain ⟨c12, h⟩ := ifN h
        obtain ⟨c13, h⟩ := ifN h
        obtain ⟨c14, h⟩ := ifN h
        by_cases c15 : (rdD 0 a0.f0 v3) = (rdD 0 a0.f0 (w64 (v3 - 1)))
        · replace h := ip c15 h
          exact hd func218 [.b true, .b false, .fin] (oT c11 (o1 c12 (o1 c11 (o1 c13 (o1 c14 (o1 (bnf (decide_eq_true c15)) on)))))) (ih v2 (w64 (v3 + 1)) h)
        · replace h := iq c15 h
          exact hd func218 [.b true, .b true, .fin] (oT c11 (o1 c12 (o1 c11 (o1 c13 (o1 c14 (o1 (bnt (decide_eq_false c15)) on)))))) (ih (w64 (v2 + 1)) (w64 (v3 + 1)) h)
      · replace h := iq c11 h
        cases h
        exact rt func218 [.b false, .fin, .fin] (oF c11 on)
  exact hd func218 [.fin] on (H0 k 0 (w64 ((if 0 > a1 then 0 else a1) + 1)) h)

/-! ### impl_MovesOf: function 178 -/
def impl_MovesOf.h0T (v4 : Int) (a0 : List S72) (v5 : Int) : List (Nat × AV) := [(3, .t (.c (.p true (iI v4)))), (6, .t (.c (.p false (R 1 e72 z72 a0)))), (7, .t (.c (.p true (.sc (.int .i64 (a0.length : Int)))))), (8, .t (.c (.p true (iI v5))))]
def impl_MovesOf.h0H (v4 : Int) (a0 : List S72) (v5 : Int) : List (Nat × Content) := []
def impl_MovesOf.l0 : Nat → List S72 → Int → Int → Option Int
  | 0, _, _, _ => none
  | kq + 1, a0, v4, v5 => if v5 < (a0.length : Int) then (if 0 ≤ v5 then ((impl_movesAfter.f kq (rdD z72 a0 v5) 0).bind fun t6 => impl_MovesOf.l0 kq a0 (w64 (v4 + t6)) (w64 (v5 + 1))) else none) else (some v4)
def impl_MovesOf.f (k : Nat) (a0 : List S72) : Option Int := impl_MovesOf.l0 k a0 0 0
theorem impl_MovesOf.go : Callable prog 178 := ⟨_, func178, by kernel_rfl, rfl⟩
theorem impl_MovesOf.ok (k : Nat) (a0 : List S72) (r : Int) (h : impl_MovesOf.f k a0 = some r) : VCalls prog 178 [.c (R 1 e72 z72 a0)] [.c (.p (iI r))] := by
  unfold impl_MovesOf.f at h
  refine VCalls.of (fn := f178) (N := 18) func178 rfl rfl (fun w0 => ?_)
  have H0 : ∀ (kq : Nat) (v4 : Int) (v5 : Int), impl_MovesOf.l0 kq a0 v4 v5 = some r → AG prog 178 18 [.c (.p (iI r))] w0 (headStk (codeOf f178) 0) (mkFS (impl_MovesOf.h0T v4 a0 v5) (impl_MovesOf.h0H v4 a0 v5)) := by
    intro kq
    induction kq with
    | zero => intro v4 v5 h; cases h
    | succ kq ih =>
      intro v4 v5 h
      rw [impl_MovesOf.l0] at h
      by_cases c5 : v5 < (a0.length : Int)
      · replace h := ip c5 h
        obtain ⟨c6, h⟩ := ifN h
        obtain ⟨t6, g7, h⟩ := bindN h
        let C7 := mkCon (impl_movesAfter.ok kq (rdD z72 a0 v5) 0 t6 g7) impl_movesAfter.go
        exact hd func178 [.b true, .call C7, .fin] (oT c5 (o1 c6 (o1 c5 (oc C7 on)))) (ih (w64 (v4 + t6)) (w64 (v5 + 1)) h)
      · replace h := iq c5 h
        cases h
        exact rt func178 [.b false, .fin, .fin] (oF c5 on)
  exact hd func178 [.fin] on (H0 k 0 0 h)

/-! ### impl_PlanFault: function 97 -/
def impl_PlanFault.f (k : Nat) (a0 : S38) (a1 : List Int) (a2 : List Int) (a3 : S45) : Option Int := (impl_EndsOf.f k a3.f2).bind fun t1 => (impl_AskOk.f k a0 a1 a2 a3.f0).bind fun t2 => if t2 = true then ((impl_formFault.f k a1 a3).bind fun t3 => if t3 = true then (some 2) else ((impl_stepFault.f k a0 a3.f2).bind fun t4 => if t4 = true then (some 3) else ((impl_someTime_3.f k a3.f0 (fun x8 => impl_PlanFault_1.f k x8 a3)).bind fun t5 => if t5 = true then (some 4) else ((impl_someTime_3.f k a3.f0 (fun x11 => impl_PlanFault_2.f k x11 a3)).bind fun t6 => if t6 = true then (some 5) else ((impl_someTime_3.f k a3.f0 (fun x14 => impl_PlanFault_3.f k x14 a3)).bind fun t7 => if t7 = true then (some 6) else ((slices_ContainsFunc_int_int_1.f k a2 (fun x17 => impl_PlanFault_4.f k x17 t1)).bind fun t8 => if t8 = true then (some 7) else ((impl_MovesOf.f k a3.f2).bind fun t9 => if a3.f1 = t9 then (some 0) else (some 8)))))))) else (some 1)
theorem impl_PlanFault.go : Callable prog 97 := ⟨_, func97, by kernel_rfl, rfl⟩
theorem impl_PlanFault.ok (k : Nat) (a0 : S38) (a1 : List Int) (a2 : List Int) (a3 : S45) (r : Int) (h : impl_PlanFault.f k a0 a1 a2 a3 = some r) : VCalls prog 97 [.agg (e38 a0), .c (R 1 (eI .i64) 0 a1), .c (R 1 (eI .i64) 0 a2), .agg (e45 a3)] [.c (.p (iI r))] := by
  unfold impl_PlanFault.f at h
  refine VCalls.of (fn := f97) (N := 56) func97 rfl rfl (fun w0 => ?_)
  obtain ⟨t1, g1, h⟩ := bindN h
  let C1 := mkCon (impl_EndsOf.ok k a3.f2 t1 g1) impl_EndsOf.go
  obtain ⟨t2, g2, h⟩ := bindN h
  let C2 := mkCon (impl_AskOk.ok k a0 a1 a2 a3.f0 t2 g2) impl_AskOk.go
  by_cases c3 : t2 = true
  · replace h := ip c3 h
    obtain ⟨t3, g4, h⟩ := bindN h
    let C4 := mkCon (impl_formFault.ok k a1 a3 t3 g4) impl_formFault.go
    by_cases c5 : t3 = true
    · replace h := ip c5 h
      cases h
      exact rt func97 [.call C1, .call C2, .b false, .call C4, .b true, .fin] (oc C1 (oc C2 (o1 (bnf c3) (oc C4 (o1 c5 on)))))
    · replace h := iq c5 h
      obtain ⟨t4, g6, h⟩ := bindN h
      let C6 := mkCon (impl_stepFault.ok k a0 a3.f2 t4 g6) impl_stepFault.go
      by_cases c7 : t4 = true
      · replace h := ip c7 h
        cases h
        exact rt func97 [.call C1, .call C2, .b false, .call C4, .b false, .call C6, .b true, .fin] (oc C1 (oc C2 (o1 (bnf c3) (oc C4 (o1 (eqf c5) (oc C6 (o1 c7 on)))))))
      · replace h := iq c7 h
        obtain ⟨t5, g9, h⟩ := bindN h
        let C9 := mkCon (impl_someTime_3.ok k a3.f0 (fun x8 => impl_PlanFault_1.f k x8 a3) 171 (iI a3.f0) (iI a3.f1) (R 1 e72 z72 a3.f2) (fun x8 r h => impl_PlanFault_1.ok k x8 a3 r h) impl_PlanFault_1.go t5 g9) impl_someTime_3.go
        by_cases c10 : t5 = true
        · replace h := ip c10 h
          cases h
          exact rt func97 [.call C1, .call C2, .b false, .call C4, .b false, .call C6, .b false, .call C9, .b true, .fin] (oc C1 (oc C2 (o1 (bnf c3) (oc C4 (o1 (eqf c5) (oc C6 (o1 (eqf c7) (oc C9 (o1 c10 on)))))))))
        · replace h := iq c10 h
          obtain ⟨t6, g12, h⟩ := bindN h
          let C12 := mkCon (impl_someTime_3.ok k a3.f0 (fun x11 => impl_PlanFault_2.f k x11 a3) 173 (iI a3.f0) (iI a3.f1) (R 1 e72 z72 a3.f2) (fun x11 r h => impl_PlanFault_2.ok k x11 a3 r h) impl_PlanFault_2.go t6 g12) impl_someTime_3.go
          by_cases c13 : t6 = true
          · replace h := ip c13 h
            cases h
            exact rt func97 [.call C1, .call C2, .b false, .call C4, .b false, .call C6, .b false, .call C9, .b false, .call C12, .b true, .fin] (oc C1 (oc C2 (o1 (bnf c3) (oc C4 (o1 (eqf c5) (oc C6 (o1 (eqf c7) (oc C9 (o1 (eqf c10) (oc C12 (o1 c13 on)))))))))))
          · replace h := iq c13 h
            obtain ⟨t7, g15, h⟩ := bindN h
            let C15 := mkCon (impl_someTime_3.ok k a3.f0 (fun x14 => impl_PlanFault_3.f k x14 a3) 175 (iI a3.f0) (iI a3.f1) (R 1 e72 z72 a3.f2) (fun x14 r h => impl_PlanFault_3.ok k x14 a3 r h) impl_PlanFault_3.go t7 g15) impl_someTime_3.go
            by_cases c16 : t7 = true
            · replace h := ip c16 h
              cases h
              exact rt func97 [.call C1, .call C2, .b false, .call C4, .b false, .call C6, .b false, .call C9, .b false, .call C12, .b false, .call C15, .b true, .fin] (oc C1 (oc C2 (o1 (bnf c3) (oc C4 (o1 (eqf c5) (oc C6 (o1 (eqf c7) (oc C9 (o1 (eqf c10) (oc C12 (o1 (eqf c13) (oc C15 (o1 c16 on)))))))))))))
            · replace h := iq c16 h
              obtain ⟨t8, g18, h⟩ := bindN h
              let C18 := mkCon (slices_ContainsFunc_int_int_1.ok k a2 (fun x17 => impl_PlanFault_4.f k x17 t1) 177 (R 1 (eI .i64) 0 t1) (fun x17 r h => impl_PlanFault_4.ok k x17 t1 r h) impl_PlanFault_4.go t8 g18) slices_ContainsFunc_int_int_1.go
              by_cases c19 : t8 = true
              · replace h := ip c19 h
                cases h
                exact rt func97 [.call C1, .call C2, .b false, .call C4, .b false, .call C6, .b false, .call C9, .b false, .call C12, .b false, .call C15, .b false, .call C18, .b true, .fin] (oc C1 (oc C2 (o1 (bnf c3) (oc C4 (o1 (eqf c5) (oc C6 (o1 (eqf c7) (oc C9 (o1 (eqf c10) (oc C12 (o1 (eqf c13) (oc C15 (o1 (eqf c16) (oc C18 (o1 c19 on)))))))))))))))
              · replace h := iq c19 h
                obtain ⟨t9, g20, h⟩ := bindN h
                let C20 := mkCon (impl_MovesOf.ok k a3.f2 t9 g20) impl_MovesOf.go
                by_cases c21 : a3.f1 = t9
                · replace h := ip c21 h
                  cases h
                  exact rt func97 [.call C1, .call C2, .b false, .call C4, .b false, .call C6, .b false, .call C9, .b false, .call C12, .b false, .call C15, .b false, .call C18, .b false, .call C20, .b false, .fin] (oc C1 (oc C2 (o1 (bnf c3) (oc C4 (o1 (eqf c5) (oc C6 (o1 (eqf c7) (oc C9 (o1 (eqf c10) (oc C12 (o1 (eqf c13) (oc C15 (o1 (eqf c16) (oc C18 (o1 (eqf c19) (oc C20 (o1 (bnf (decide_eq_true c21)) on)))))))))))))))))
                · replace h := iq c21 h
                  cases h
                  exact rt func97 [.call C1, .call C2, .b false, .call C4, .b false, .call C6, .b false, .call C9, .b false, .call C12, .b false, .call C15, .b false, .call C18, .b false, .call C20, .b true, .fin] (oc C1 (oc C2 (o1 (bnf c3) (oc C4 (o1 (eqf c5) (oc C6 (o1 (eqf c7) (oc C9 (o1 (eqf c10) (oc C12 (o1 (eqf c13) (oc C15 (o1 (eqf c16) (oc C18 (o1 (eqf c19) (oc C20 (o1 (bnt (decide_eq_false c21)) on)))))))))))))))))
  · replace h := iq c3 h
    cases h
    exact rt func97 [.call C1, .call C2, .b true, .fin] (oc C1 (oc C2 (oN c3 on)))

/-! ### impl_YardOk_1: function 101 -/
def impl_YardOk_1.f (a0 : S74) (a1 : S69) : Option Bool := some (decide (a0.f0 = a1.f0))
theorem impl_YardOk_1.go : Callable prog 101 := ⟨_, func101, by kernel_rfl, rfl⟩
theorem impl_YardOk_1.ok (a0 : S74) (a1 : S69) (r : Bool) (h : impl_YardOk_1.f a0 a1 = some r) : VCalls prog 101 [.agg (e74 a0), .ptr [.sc (.int .i64 a1.f0), .sc (.int .i64 a1.f1), .sc (.int .i64 a1.f2), .sc (.bool a1.f3)]] [.c (.p (.sc (.bool r)))] := by
  unfold impl_YardOk_1.f at h
  refine VCalls.of (fn := f101) (N := 9) func101 rfl rfl (fun w0 => ?_)
  cases h
  exact rt func101 [.fin] on
end Go.Proofs.YtoaknaceaghclaaGreat.V
