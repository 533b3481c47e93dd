/- What each Go function computes, and that the machine does so: printed by a program of this session (avgen.py). -/
import Derived.Test.YtoaknaceaghclaaGreatV4
namespace Go.Proofs.YtoaknaceaghclaaGreat.V
open Go Go.Av Go.Proofs Go.Proofs.Tryz
set_option linter.unusedVariables false
set_option maxRecDepth 100000
/-! ### slices_IndexFunc_impl_Job_impl_Job_4: function 59 -/
def slices_IndexFunc_impl_Job_impl_Job_4.h0T (a0 : List S74) (gi1 : FuncId) (u1_0_0 : V) (u1_0_1 : V) (u1_0_2 : V) (u1_0_3 : V) (v2 : Int) : List (Nat × AV) := [(0, .t (.c (.p false (R 3 e74 z74 a0)))), (1, .bfn gi1 [[u1_0_0, u1_0_1, u1_0_2, u1_0_3]]), (7, .t (.c (.p true (.sc (.int .i64 (a0.length : Int)))))), (8, .t (.c (.p true (iI v2))))]
def slices_IndexFunc_impl_Job_impl_Job_4.h0H (a0 : List S74) (gi1 : FuncId) (u1_0_0 : V) (u1_0_1 : V) (u1_0_2 : V) (u1_0_3 : V) (v2 : Int) : List (Nat × Content) := []
def slices_IndexFunc_impl_Job_impl_Job_4.l0 : Nat → List S74 → (S74 → Option Bool) → Int → Option Int
  | 0, _, _, _ => none
  | kq + 1, a0, p1, v2 => if v2 < (a0.length : Int) then (if 0 ≤ v2 then ((p1 (rdD z74 a0 v2)).bind fun t3 => if t3 = true then (some v2) else (slices_IndexFunc_impl_Job_impl_Job_4.l0 kq a0 p1 (w64 (v2 + 1)))) else none) else (some (-1))
def slices_IndexFunc_impl_Job_impl_Job_4.f (k : Nat) (a0 : List S74) (p1 : S74 → Option Bool) : Option Int := slices_IndexFunc_impl_Job_impl_Job_4.l0 k a0 p1 0
theorem slices_IndexFunc_impl_Job_impl_Job_4.go : Callable prog 59 := ⟨_, func59, by kernel_rfl, rfl⟩
theorem slices_IndexFunc_impl_Job_impl_Job_4.ok (k : Nat) (a0 : List S74) (p1 : S74 → Option Bool) (gi1 : FuncId) (u1_0_0 u1_0_1 u1_0_2 u1_0_3 : V) (hp1 : ∀ x0 r, p1 x0 = some r → VCalls prog gi1 [.agg (e74 x0), .ptr [u1_0_0, u1_0_1, u1_0_2, u1_0_3]] [.c (.p (.sc (.bool r)))]) (go1 : Callable prog gi1) (r : Int) (h : slices_IndexFunc_impl_Job_impl_Job_4.f k a0 p1 = some r) : VCalls prog 59 [.c (R 3 e74 z74 a0), .fn gi1 [[u1_0_0, u1_0_1, u1_0_2, u1_0_3]]] [.c (.p (iI r))] := by
  unfold slices_IndexFunc_impl_Job_impl_Job_4.f at h
  refine VCalls.of (fn := f59) (N := 19) func59 rfl rfl (fun w0 => ?_)
  have H0 : ∀ (kq : Nat) (v2 : Int), slices_IndexFunc_impl_Job_impl_Job_4.l0 kq a0 p1 v2 = some r → AG prog 59 19 [.c (.p (iI r))] w0 (headStk (codeOf f59) 0) (mkFS (slices_IndexFunc_impl_Job_impl_Job_4.h0T a0 gi1 u1_0_0 u1_0_1 u1_0_2 u1_0_3 v2) (slices_IndexFunc_impl_Job_impl_Job_4.h0H a0 gi1 u1_0_0 u1_0_1 u1_0_2 u1_0_3 v2)) := by
    intro kq
    induction kq with
    | zero => intro v2 h; cases h
    | succ kq ih =>
      intro v2 h
      rw [slices_IndexFunc_impl_Job_impl_Job_4.l0] at h
      by_cases c4 : v2 < (a0.length : Int)
      · replace h := ip c4 h
        obtain ⟨c5, h⟩ := ifN h
        obtain ⟨t3, g6, h⟩ := bindN h
        let C6 := mkCon (hp1 (rdD z74 a0 v2) t3 g6) go1
        by_cases c7 : t3 = true
        · replace h := ip c7 h
          cases h
          exact rt func59 [.b true, .call C6, .b true, .fin] (oT c4 (o1 c5 (o1 c4 (oc C6 (o1 c7 on)))))
        · replace h := iq c7 h
          exact hd func59 [.b true, .call C6, .b false, .fin] (oT c4 (o1 c5 (o1 c4 (oc C6 (o1 (eqf c7) on))))) (ih (w64 (v2 + 1)) h)
      · replace h := iq c4 h
        cases h
        exact rt func59 [.b false, .fin, .fin] (oF c4 on)
  exact hd func59 [.fin] on (H0 k 0 h)

/-! ### slices_ContainsFunc_impl_Job_impl_Job_4: function 100 -/
def slices_ContainsFunc_impl_Job_impl_Job_4.f (k : Nat) (a0 : List S74) (p1 : S74 → Option Bool) : Option Bool := (slices_IndexFunc_impl_Job_impl_Job_4.f k a0 p1).bind fun t1 => some (decide (0 ≤ t1))
theorem slices_ContainsFunc_impl_Job_impl_Job_4.go : Callable prog 100 := ⟨_, func100, by kernel_rfl, rfl⟩
theorem slices_ContainsFunc_impl_Job_impl_Job_4.ok (k : Nat) (a0 : List S74) (p1 : S74 → Option Bool) (gi1 : FuncId) (u1_0_0 u1_0_1 u1_0_2 u1_0_3 : V) (hp1 : ∀ x0 r, p1 x0 = some r → VCalls prog gi1 [.agg (e74 x0), .ptr [u1_0_0, u1_0_1, u1_0_2, u1_0_3]] [.c (.p (.sc (.bool r)))]) (go1 : Callable prog gi1) (r : Bool) (h : slices_ContainsFunc_impl_Job_impl_Job_4.f k a0 p1 = some r) : VCalls prog 100 [.c (R 3 e74 z74 a0), .fn gi1 [[u1_0_0, u1_0_1, u1_0_2, u1_0_3]]] [.c (.p (.sc (.bool r)))] := by
  unfold slices_ContainsFunc_impl_Job_impl_Job_4.f at h
  refine VCalls.of (fn := f100) (N := 9) func100 rfl rfl (fun w0 => ?_)
  obtain ⟨t1, g1, h⟩ := bindN h
  let C1 := mkCon (slices_IndexFunc_impl_Job_impl_Job_4.ok k a0 p1 gi1 u1_0_0 u1_0_1 u1_0_2 u1_0_3 hp1 go1 t1 g1) slices_IndexFunc_impl_Job_impl_Job_4.go
  cases h
  exact rt func100 [.call C1, .fin] (oc C1 on)

/-! ### impl_YardOk_2: function 104 -/
def impl_YardOk_2.f (k : Nat) (a0 : Int) (a1 : List Int) : Option Bool := (slices_Contains_int_int.f k a1 a0).bind fun t1 => some t1
theorem impl_YardOk_2.go : Callable prog 104 := ⟨_, func104, by kernel_rfl, rfl⟩
theorem impl_YardOk_2.ok (k : Nat) (a0 : Int) (a1 : List Int) (r : Bool) (h : impl_YardOk_2.f k a0 a1 = some r) : VCalls prog 104 [.c (iI a0), .ptr [R 1 (eI .i64) 0 a1]] [.c (.p (.sc (.bool r)))] := by
  unfold impl_YardOk_2.f at h
  refine VCalls.of (fn := f104) (N := 7) func104 rfl rfl (fun w0 => ?_)
  obtain ⟨t1, g1, h⟩ := bindN h
  let C1 := mkCon (slices_Contains_int_int.ok k a1 a0 t1 g1) slices_Contains_int_int.go
  cases h
  exact rt func104 [.call C1, .fin] (oc C1 on)

/-! ### impl_YardOk: function 40 -/
def impl_YardOk.h0T (a0 : S48) (v12 : Int) (t7 : List Int) : List (Nat × AV) := [(1, .ptr 64 0), (4, .ptr 256 0), (90, .t (.c (.p false (R 4 e69 z69 a0.f1)))), (91, .t (.c (.p true (.sc (.int .i64 (a0.f1.length : Int)))))), (92, .t (.c (.p true (iI v12))))]
def impl_YardOk.h0H (a0 : S48) (v12 : Int) (t7 : List Int) : List (Nat × Content) := [(64, .box 48 [.p false (iI a0.f0.f0.f0), .p false (iI a0.f0.f0.f1), .p false (.sc (.string a0.f0.f0.f2)), .p false (iI a0.f0.f1), .p false (iI a0.f0.f2), .p false (iI a0.f0.f3), .p false (iI a0.f0.f4), .p false (R 4 e69 z69 a0.f1), .p false (iI a0.f2.f0), .p false (iI a0.f2.f1), .p false (R 1 (eI .i64) 0 a0.f2.f2), .p false (iI a0.f3), .p false (.sc (.bool a0.f4)), .p false (iI a0.f5.f0), .p false (iI a0.f5.f1), .p false (R 1 e72 z72 a0.f5.f2), .p false (R 3 e74 z74 a0.f6), .p false (R 1 (eI .i64) 0 a0.f7)]), (256, .box 27 [.h 4736]), (4736, .row 3 1 t7.length (fun j => (eI .i64) (t7.getD j 0)) true)]
def impl_YardOk.l0 : Nat → S48 → List Int → Int → Option Bool
  | 0, _, _, _ => none
  | kq + 1, a0, t7, v12 => if v12 < (a0.f1.length : Int) then (if 0 ≤ v12 then ((slices_ContainsFunc_impl_Job_impl_Job_4.f kq a0.f6 (fun x29 => impl_YardOk_1.f x29 (rdD z69 a0.f1 v12))).bind fun t13 => if t13 = true then (impl_YardOk.l0 kq a0 t7 (w64 (v12 + 1))) else ((impl_heldBy.f (rdD z69 a0.f1 v12)).bind fun t14 => (slices_ContainsFunc_int_int_1.f kq t14 (fun x33 => impl_YardOk_2.f kq x33 t7)).bind fun t15 => if t15 = true then (some false) else (impl_YardOk.l0 kq a0 t7 (w64 (v12 + 1))))) else none) else (some true)
def impl_YardOk.f (k : Nat) (a0 : S48) : Option Bool := (impl_SetupOk.f k a0.f0).bind fun t1 => if t1 = true then ((impl_RobotsOk.f k a0.f0.f0 a0.f1).bind fun t2 => if t2 = true then ((impl_WindowOk.f k a0.f2).bind fun t3 => if t3 = true then (if a0.f2.f0 = a0.f0.f2 then (if a0.f2.f1 = a0.f0.f3 then (if a0.f3 < 0 then (some false) else (if 1000000000 < a0.f3 then (some false) else ((impl_JobsOk.f k a0).bind fun t4 => if t4 = true then ((impl_areFree.f k a0.f0.f0 a0.f7).bind fun t5 => if t5 = true then ((impl_isAscending.f k a0.f7).bind fun t6 => if t6 = true then (if a0.f4 = true then ((impl_Footprint.f k a0).bind fun t7 => (impl_onlyCells.f k a0.f0.f0 t7).bind fun t8 => (impl_firstCells.f k a0.f5.f2).bind fun t9 => (impl_PlanFault.f k t8 t9 a0.f7 a0.f5).bind fun t10 => if t10 = 0 then (impl_YardOk.l0 k a0 t7 0) else (some false)) else (some true)) else (some false)) else (some false)) else (some false)))) else (some false)) else (some false)) else (some false)) else (some false)) else (some false)
theorem impl_YardOk.go : Callable prog 40 := ⟨_, func40, by kernel_rfl, rfl⟩
theorem impl_YardOk.ok (k : Nat) (a0 : S48) (r : Bool) (h : impl_YardOk.f k a0 = some r) : VCalls prog 40 [.agg (e48 a0)] [.c (.p (.sc (.bool r)))] := by
  unfold impl_YardOk.f at h
  refine VCalls.of (fn := f40) (N := 109) func40 rfl rfl (fun w0 => ?_)
  obtain ⟨t1, g1, h⟩ := bindN h
  let C1 := mkCon (impl_SetupOk.ok k a0.f0 t1 g1) impl_SetupOk.go
  by_cases c2 : t1 = true
  · replace h := ip c2 h
    obtain ⟨t2, g3, h⟩ := bindN h
    let C3 := mkCon (impl_RobotsOk.ok k a0.f0.f0 a0.f1 t2 g3) impl_RobotsOk.go
    by_cases c4 : t2 = true
    · replace h := ip c4 h
      obtain ⟨t3, g5, h⟩ := bindN h
      let C5 := mkCon (impl_WindowOk.ok k a0.f2 t3 g5) impl_WindowOk.go
      by_cases c6 : t3 = true
      · replace h := ip c6 h
        by_cases c7 : a0.f2.f0 = a0.f0.f2
        · replace h := ip c7 h
          by_cases c8 : a0.f2.f1 = a0.f0.f3
          · replace h := ip c8 h
            by_cases c9 : a0.f3 < 0
            · replace h := ip c9 h
              cases h
              exact rt func40 [.call C1, .dec 13 false, .call C3, .dec 21 false, .call C5, .dec 27 false, .dec 35 false, .b false, .dec 46 true, .b true, .fin] (oc C1 (o1 (bnf c2) (oc C3 (o1 (bnf c4) (oc C5 (o1 (bnf c6) (o1 (bnf (decide_eq_true c7)) (o1 (bnf (decide_eq_true c8)) (oT c9 (oR on))))))))))
            · replace h := iq c9 h
              by_cases c10 : 1000000000 < a0.f3
              · replace h := ip c10 h
                cases h
                exact rt func40 [.call C1, .dec 13 false, .call C3, .dec 21 false, .call C5, .dec 27 false, .dec 35 false, .b false, .dec 46 false, .dec 51 true, .b true, .fin] (oc C1 (o1 (bnf c2) (oc C3 (o1 (bnf c4) (oc C5 (o1 (bnf c6) (o1 (bnf (decide_eq_true c7)) (o1 (bnf (decide_eq_true c8)) (oF c9 (oT c10 (oR on)))))))))))
              · replace h := iq c10 h
                obtain ⟨t4, g11, h⟩ := bindN h
                let C11 := mkCon (impl_JobsOk.ok k a0 t4 g11) impl_JobsOk.go
                by_cases c12 : t4 = true
                · replace h := ip c12 h
                  obtain ⟨t5, g13, h⟩ := bindN h
                  let C13 := mkCon (impl_areFree.ok k a0.f0.f0 a0.f7 t5 g13) impl_areFree.go
                  by_cases c14 : t5 = true
                  · replace h := ip c14 h
                    obtain ⟨t6, g15, h⟩ := bindN h
                    let C15 := mkCon (impl_isAscending.ok k a0.f7 t6 g15) impl_isAscending.go
                    by_cases c16 : t6 = true
                    · replace h := ip c16 h
                      by_cases c17 : a0.f4 = true
                      · replace h := ip c17 h
                        obtain ⟨t7, g18, h⟩ := bindN h
                        let C18 := mkCon (impl_Footprint.ok k a0 t7 g18) impl_Footprint.go
                        obtain ⟨t8, g19, h⟩ := bindN h
                        let C19 := mkCon (impl_onlyCells.ok k a0.f0.f0 t7 t8 g19) impl_onlyCells.go
                        obtain ⟨t9, g20, h⟩ := bindN h
                        let C20 := mkCon (impl_firstCells.ok k a0.f5.f2 t9 g20) impl_firstCells.go
                        obtain ⟨t10, g21, h⟩ := bindN h
                        let C21 := mkCon (impl_PlanFault.ok k t8 t9 a0.f7 a0.f5 t10 g21) impl_PlanFault.go
                        by_cases c22 : t10 = 0
                        · replace h := ip c22 h
                          have H0 : ∀ (kq : Nat) (v12 : Int), impl_YardOk.l0 kq a0 t7 v12 = some r → AG prog 40 109 [.c (.p (.sc (.bool r)))] w0 (headStk (codeOf f40) 0) (mkFS (impl_YardOk.h0T a0 v12 t7) (impl_YardOk.h0H a0 v12 t7)) := by
                            intro kq
                            induction kq with
                            | zero => intro v12 h; cases h
                            | succ kq ih =>
                              intro v12 h
                              rw [impl_YardOk.l0] at h
                              by_cases c27 : v12 < (a0.f1.length : Int)
                              · replace h := ip c27 h
                                obtain ⟨c28, h⟩ := ifN h
                                obtain ⟨t13, g30, h⟩ := bindN h
                                let C30 := mkCon (slices_ContainsFunc_impl_Job_impl_Job_4.ok kq a0.f6 (fun x29 => impl_YardOk_1.f x29 (rdD z69 a0.f1 v12)) 101 (.sc (.int .i64 ((rdD z69 a0.f1 v12).f0))) (.sc (.int .i64 ((rdD z69 a0.f1 v12).f1))) (.sc (.int .i64 ((rdD z69 a0.f1 v12).f2))) (.sc (.bool ((rdD z69 a0.f1 v12).f3))) (fun x29 r h => impl_YardOk_1.ok x29 (rdD z69 a0.f1 v12) r h) impl_YardOk_1.go t13 g30) slices_ContainsFunc_impl_Job_impl_Job_4.go
                                by_cases c31 : t13 = true
                                · replace h := ip c31 h
                                  exact hd func40 [.b true, .call C30, .dec 102 false, .b false, .fin] (oT c27 (o1 c28 (o1 c27 (oc C30 (o1 (bnf c31) (o1 (rfl : false = false) on)))))) (ih (w64 (v12 + 1)) h)
                                · replace h := iq c31 h
                                  obtain ⟨t14, g32, h⟩ := bindN h
                                  let C32 := mkCon (impl_heldBy.ok (rdD z69 a0.f1 v12) t14 g32) impl_heldBy.go
                                  obtain ⟨t15, g34, h⟩ := bindN h
                                  let C34 := mkCon (slices_ContainsFunc_int_int_1.ok kq t14 (fun x33 => impl_YardOk_2.f kq x33 t7) 104 (R 1 (eI .i64) 0 t7) (fun x33 r h => impl_YardOk_2.ok kq x33 t7 r h) impl_YardOk_2.go t15 g34) slices_ContainsFunc_int_int_1.go
                                  by_cases c35 : t15 = true
                                  · replace h := ip c35 h
                                    cases h
                                    exact rt func40 [.b true, .call C30, .dec 102 true, .call C32, .call C34, .b true, .fin] (oT c27 (o1 c28 (o1 c27 (oc C30 (oN c31 (oc C32 (oc C34 (o1 c35 on))))))))
                                  · replace h := iq c35 h
                                    exact hd func40 [.b true, .call C30, .dec 102 true, .call C32, .call C34, .b false, .fin] (oT c27 (o1 c28 (o1 c27 (oc C30 (oN c31 (oc C32 (oc C34 (o1 (eqf c35) on)))))))) (ih (w64 (v12 + 1)) h)
                              · replace h := iq c27 h
                                cases h
                                exact rt func40 [.b false, .fin, .fin] (oF c27 on)
                          exact hd func40 [.call C1, .dec 13 false, .call C3, .dec 21 false, .call C5, .dec 27 false, .dec 35 false, .b false, .dec 46 false, .dec 51 false, .call C11, .dec 56 false, .call C13, .dec 64 false, .call C15, .b false, .b false, .call C18, .call C19, .call C20, .call C21, .b false, .fin] (oc C1 (o1 (bnf c2) (oc C3 (o1 (bnf c4) (oc C5 (o1 (bnf c6) (o1 (bnf (decide_eq_true c7)) (o1 (bnf (decide_eq_true c8)) (oF c9 (oF c10 (oc C11 (o1 (bnf c12) (oc C13 (o1 (bnf c14) (oc C15 (o1 (bnf c16) (o1 (bnf c17) (oc C18 (oc C19 (oc C20 (oc C21 (o1 (bnf (decide_eq_true c22)) on)))))))))))))))))))))) (H0 k 0 h)
                        · replace h := iq c22 h
                          cases h
                          exact rt func40 [.call C1, .dec 13 false, .call C3, .dec 21 false, .call C5, .dec 27 false, .dec 35 false, .b false, .dec 46 false, .dec 51 false, .call C11, .dec 56 false, .call C13, .dec 64 false, .call C15, .b false, .b false, .call C18, .call C19, .call C20, .call C21, .b true, .fin] (oc C1 (o1 (bnf c2) (oc C3 (o1 (bnf c4) (oc C5 (o1 (bnf c6) (o1 (bnf (decide_eq_true c7)) (o1 (bnf (decide_eq_true c8)) (oF c9 (oF c10 (oc C11 (o1 (bnf c12) (oc C13 (o1 (bnf c14) (oc C15 (o1 (bnf c16) (o1 (bnf c17) (oc C18 (oc C19 (oc C20 (oc C21 (o1 (bnt (decide_eq_false c22)) on))))))))))))))))))))))
                      · replace h := iq c17 h
                        cases h
                        exact rt func40 [.call C1, .dec 13 false, .call C3, .dec 21 false, .call C5, .dec 27 false, .dec 35 false, .b false, .dec 46 false, .dec 51 false, .call C11, .dec 56 false, .call C13, .dec 64 false, .call C15, .b false, .b true, .fin] (oc C1 (o1 (bnf c2) (oc C3 (o1 (bnf c4) (oc C5 (o1 (bnf c6) (o1 (bnf (decide_eq_true c7)) (o1 (bnf (decide_eq_true c8)) (oF c9 (oF c10 (oc C11 (o1 (bnf c12) (oc C13 (o1 (bnf c14) (oc C15 (o1 (bnf c16) (oN c17 on)))))))))))))))))
                    · replace h := iq c16 h
                      cases h
                      exact rt func40 [.call C1, .dec 13 false, .call C3, .dec 21 false, .call C5, .dec 27 false, .dec 35 false, .b false, .dec 46 false, .dec 51 false, .call C11, .dec 56 false, .call C13, .dec 64 false, .call C15, .b true, .fin] (oc C1 (o1 (bnf c2) (oc C3 (o1 (bnf c4) (oc C5 (o1 (bnf c6) (o1 (bnf (decide_eq_true c7)) (o1 (bnf (decide_eq_true c8)) (oF c9 (oF c10 (oc C11 (o1 (bnf c12) (oc C13 (o1 (bnf c14) (oc C15 (oN c16 on))))))))))))))))
                  · replace h := iq c14 h
                    cases h
                    exact rt func40 [.call C1, .dec 13 false, .call C3, .dec 21 false, .call C5, .dec 27 false, .dec 35 false, .b false, .dec 46 false, .dec 51 false, .call C11, .dec 56 false, .call C13, .dec 64 true, .b true, .fin] (oc C1 (o1 (bnf c2) (oc C3 (o1 (bnf c4) (oc C5 (o1 (bnf c6) (o1 (bnf (decide_eq_true c7)) (o1 (bnf (decide_eq_true c8)) (oF c9 (oF c10 (oc C11 (o1 (bnf c12) (oc C13 (oN c14 (oR on)))))))))))))))
                · replace h := iq c12 h
                  cases h
                  exact rt func40 [.call C1, .dec 13 false, .call C3, .dec 21 false, .call C5, .dec 27 false, .dec 35 false, .b false, .dec 46 false, .dec 51 false, .call C11, .dec 56 true, .b true, .fin] (oc C1 (o1 (bnf c2) (oc C3 (o1 (bnf c4) (oc C5 (o1 (bnf c6) (o1 (bnf (decide_eq_true c7)) (o1 (bnf (decide_eq_true c8)) (oF c9 (oF c10 (oc C11 (oN c12 (oR on)))))))))))))
          · replace h := iq c8 h
            cases h
            exact rt func40 [.call C1, .dec 13 false, .call C3, .dec 21 false, .call C5, .dec 27 false, .dec 35 false, .b true, .fin] (oc C1 (o1 (bnf c2) (oc C3 (o1 (bnf c4) (oc C5 (o1 (bnf c6) (o1 (bnf (decide_eq_true c7)) (o1 (bnt (decide_eq_false c8)) on))))))))
        · replace h := iq c7 h
          cases h
          exact rt func40 [.call C1, .dec 13 false, .call C3, .dec 21 false, .call C5, .dec 27 false, .dec 35 true, .b true, .fin] (oc C1 (o1 (bnf c2) (oc C3 (o1 (bnf c4) (oc C5 (o1 (bnf c6) (o1 (bnt (decide_eq_false c7)) (oR on))))))))
      · replace h := iq c6 h
        cases h
        exact rt func40 [.call C1, .dec 13 false, .call C3, .dec 21 false, .call C5, .dec 27 true, .b true, .fin] (oc C1 (o1 (bnf c2) (oc C3 (o1 (bnf c4) (oc C5 (oN c6 (oR on)))))))
    · replace h := iq c4 h
      cases h
      exact rt func40 [.call C1, .dec 13 false, .call C3, .dec 21 true, .b true, .fin] (oc C1 (o1 (bnf c2) (oc C3 (oN c4 (oR on)))))
  · replace h := iq c2 h
    cases h
    exact rt func40 [.call C1, .dec 13 true, .b true, .fin] (oc C1 (oN c2 (oR on)))

/-! ### impl_isHeld_1: function 115 -/
def impl_isHeld_1.f (k : Nat) (a0 : S69) (a1 : Int) : Option Bool := (impl_heldBy.f a0).bind fun t1 => (slices_Contains_int_int.f k t1 a1).bind fun t2 => some t2
theorem impl_isHeld_1.go : Callable prog 115 := ⟨_, func115, by kernel_rfl, rfl⟩
theorem impl_isHeld_1.ok (k : Nat) (a0 : S69) (a1 : Int) (r : Bool) (h : impl_isHeld_1.f k a0 a1 = some r) : VCalls prog 115 [.agg (e69 a0), .ptr [.sc (.int .i64 a1)]] [.c (.p (.sc (.bool r)))] := by
  unfold impl_isHeld_1.f at h
  refine VCalls.of (fn := f115) (N := 8) func115 rfl rfl (fun w0 => ?_)
  obtain ⟨t1, g1, h⟩ := bindN h
  let C1 := mkCon (impl_heldBy.ok a0 t1 g1) impl_heldBy.go
  obtain ⟨t2, g2, h⟩ := bindN h
  let C2 := mkCon (slices_Contains_int_int.ok k t1 a1 t2 g2) slices_Contains_int_int.go
  cases h
  exact rt func115 [.call C1, .call C2, .fin] (oc C1 (oc C2 on))

/-! ### slices_ContainsFunc_impl_Robot_impl_Robot_1: function 114 -/
def slices_ContainsFunc_impl_Robot_impl_Robot_1.f (k : Nat) (a0 : List S69) (p1 : S69 → Option Bool) : Option Bool := (slices_IndexFunc_impl_Robot_impl_Robot_1.f k a0 p1).bind fun t1 => some (decide (0 ≤ t1))
theorem slices_ContainsFunc_impl_Robot_impl_Robot_1.go : Callable prog 114 := ⟨_, func114, by kernel_rfl, rfl⟩
theorem slices_ContainsFunc_impl_Robot_impl_Robot_1.ok (k : Nat) (a0 : List S69) (p1 : S69 → Option Bool) (gi1 : FuncId) (u1_0_0 : V) (hp1 : ∀ x0 r, p1 x0 = some r → VCalls prog gi1 [.agg (e69 x0), .ptr [u1_0_0]] [.c (.p (.sc (.bool r)))]) (go1 : Callable prog gi1) (r : Bool) (h : slices_ContainsFunc_impl_Robot_impl_Robot_1.f k a0 p1 = some r) : VCalls prog 114 [.c (R 4 e69 z69 a0), .fn gi1 [[u1_0_0]]] [.c (.p (.sc (.bool r)))] := by
  unfold slices_ContainsFunc_impl_Robot_impl_Robot_1.f at h
  refine VCalls.of (fn := f114) (N := 9) func114 rfl rfl (fun w0 => ?_)
  obtain ⟨t1, g1, h⟩ := bindN h
  let C1 := mkCon (slices_IndexFunc_impl_Robot_impl_Robot_1.ok k a0 p1 gi1 u1_0_0 hp1 go1 t1 g1) slices_IndexFunc_impl_Robot_impl_Robot_1.go
  cases h
  exact rt func114 [.call C1, .fin] (oc C1 on)

/-! ### impl_isHeld: function 54 -/
def impl_isHeld.f (k : Nat) (a0 : List S69) (a1 : Int) : Option Bool := if 0 ≤ a1 then ((slices_ContainsFunc_impl_Robot_impl_Robot_1.f k a0 (fun x2 => impl_isHeld_1.f k x2 a1)).bind fun t1 => some t1) else (some false)
theorem impl_isHeld.go : Callable prog 54 := ⟨_, func54, by kernel_rfl, rfl⟩
theorem impl_isHeld.ok (k : Nat) (a0 : List S69) (a1 : Int) (r : Bool) (h : impl_isHeld.f k a0 a1 = some r) : VCalls prog 54 [.c (R 4 e69 z69 a0), .c (iI a1)] [.c (.p (.sc (.bool r)))] := by
  unfold impl_isHeld.f at h
  refine VCalls.of (fn := f54) (N := 12) func54 rfl rfl (fun w0 => ?_)
  by_cases c1 : 0 ≤ a1
  · replace h := ip c1 h
    obtain ⟨t1, g3, h⟩ := bindN h
    let C3 := mkCon (slices_ContainsFunc_impl_Robot_impl_Robot_1.ok k a0 (fun x2 => impl_isHeld_1.f k x2 a1) 115 (iI a1) (fun x2 r h => impl_isHeld_1.ok k x2 a1 r h) impl_isHeld_1.go t1 g3) slices_ContainsFunc_impl_Robot_impl_Robot_1.go
    cases h
    exact rt func54 [.dec 7 true, .call C3, .fin] (oT c1 (oc C3 on))
  · replace h := iq c1 h
    cases h
    exact rt func54 [.dec 7 false, .fin] (oF c1 on)

/-! ### impl_OrdersOf: function 17 -/
def impl_OrdersOf.h0T (t2 : Int) (a0 : S48) (v8 : Int) (v7 : List S92) : List (Nat × AV) := [(1, .ptr 64 0), (3, .t (.c (.p true (iI t2)))), (4, .t (.c (.h 320256))), (19, .t (.c (.p false (R 3 e74 z74 a0.f6)))), (20, .t (.c (.p true (.sc (.int .i64 (a0.f6.length : Int)))))), (21, .t (.c (.p true (iI v8))))]
def impl_OrdersOf.h0H (t2 : Int) (a0 : S48) (v8 : Int) (v7 : List S92) : List (Nat × Content) := [(64, .box 48 [.p false (iI a0.f0.f0.f0), .p false (iI a0.f0.f0.f1), .p false (.sc (.string a0.f0.f0.f2)), .p false (iI a0.f0.f1), .p false (iI a0.f0.f2), .p false (iI a0.f0.f3), .p false (iI a0.f0.f4), .p false (R 4 e69 z69 a0.f1), .p false (iI a0.f2.f0), .p false (iI a0.f2.f1), .p false (R 1 (eI .i64) 0 a0.f2.f2), .p false (iI a0.f3), .p false (.sc (.bool a0.f4)), .p false (iI a0.f5.f0), .p false (iI a0.f5.f1), .p false (R 1 e72 z72 a0.f5.f2), .p false (R 3 e74 z74 a0.f6), .p false (R 1 (eI .i64) 0 a0.f7)]), (320256, .row 92 3 v7.length (fun j => e92 (v7.getD j z92)) true)]
def impl_OrdersOf.l0 : Nat → S48 → Int → List S92 → Int → Option (List S92)
  | 0, _, _, _, _ => none
  | kq + 1, a0, t2, v7, v8 => if v8 < (a0.f6.length : Int) then (if 0 ≤ v8 then (if v8 < (a0.f5.f2.length : Int) then (if (rdD z74 a0.f6 v8).f2 = true then (impl_OrdersOf.l0 kq a0 t2 v7 (w64 (v8 + 1))) else (if (rdD z74 a0.f6 v8).f1 = t2 then (if 0 ≤ (w64 ((rdD z74 a0.f6 v8).f1 + 1)) then (if (w64 ((rdD z74 a0.f6 v8).f1 + 1)) < (((rdD z72 a0.f5.f2 v8).f0).length : Int) then ((impl_isHeld.f kq a0.f1 (rdD 0 ((rdD z72 a0.f5.f2 v8).f0) (w64 ((rdD z74 a0.f6 v8).f1 + 1)))).bind fun t9 => if t9 = true then (impl_OrdersOf.l0 kq a0 t2 v7 (w64 (v8 + 1))) else (if 0 ≤ (rdD z74 a0.f6 v8).f1 then (if (rdD z74 a0.f6 v8).f1 < (((rdD z72 a0.f5.f2 v8).f0).length : Int) then (if (v7.length + 1) * 24 ≤ 140737488355328 then (impl_OrdersOf.l0 kq a0 t2 (v7 ++ [(⟨(rdD z74 a0.f6 v8).f0, (rdD 0 ((rdD z72 a0.f5.f2 v8).f0) ((rdD z74 a0.f6 v8).f1)), (rdD 0 ((rdD z72 a0.f5.f2 v8).f0) (w64 ((rdD z74 a0.f6 v8).f1 + 1)))⟩ : S92)]) (w64 (v8 + 1))) else none) else none) else none)) else none) else none) else (impl_OrdersOf.l0 kq a0 t2 v7 (w64 (v8 + 1))))) else none) else none) else (some v7)
def impl_OrdersOf.f (k : Nat) (a0 : S48) : Option (List S92) := (impl_YardOk.f k a0).bind fun t1 => if t1 = true then (if a0.f4 = true then ((impl_LayerOf.f k a0).bind fun t2 => impl_OrdersOf.l0 k a0 t2 ([] : List S92) 0) else (some ([] : List S92))) else (some ([] : List S92))
theorem impl_OrdersOf.go : Callable prog 17 := ⟨_, func17, by kernel_rfl, rfl⟩
theorem impl_OrdersOf.ok (k : Nat) (a0 : S48) (r : (List S92)) (h : impl_OrdersOf.f k a0 = some r) : VCalls prog 17 [.agg (e48 a0)] [.c (.own 92 3 r.length (fun j => e92 (r.getD j z92)))] := by
  unfold impl_OrdersOf.f at h
  refine VCalls.of (fn := f17) (N := 71) func17 rfl rfl (fun w0 => ?_)
  obtain ⟨t1, g1, h⟩ := bindN h
  let C1 := mkCon (impl_YardOk.ok k a0 t1 g1) impl_YardOk.go
  by_cases c2 : t1 = true
  · replace h := ip c2 h
    by_cases c3 : a0.f4 = true
    · replace h := ip c3 h
      obtain ⟨t2, g4, h⟩ := bindN h
      let C4 := mkCon (impl_LayerOf.ok k a0 t2 g4) impl_LayerOf.go
      have H0 : ∀ (kq : Nat) (v7 : List S92) (v8 : Int), impl_OrdersOf.l0 kq a0 t2 v7 v8 = some r → AG prog 17 71 [.c (.own 92 3 r.length (fun j => e92 (r.getD j z92)))] w0 (headStk (codeOf f17) 0) (mkFS (impl_OrdersOf.h0T t2 a0 v8 v7) (impl_OrdersOf.h0H t2 a0 v8 v7)) := by
        intro kq
        induction kq with
        | zero => intro v7 v8 h; cases h
        | succ kq ih =>
          intro v7 v8 h
          rw [impl_OrdersOf.l0] at h
          by_cases c32 : v8 < (a0.f6.length : Int)
          · replace h := ip c32 h
            obtain ⟨c33, h⟩ := ifN h
            obtain ⟨c34, h⟩ := ifN h
            by_cases c35 : (rdD z74 a0.f6 v8).f2 = true
            · replace h := ip c35 h
              exact hd func17 [.b true, .dec 35 true, .b true, .fin, .fin] (oT c32 (o1 c33 (o1 c32 (o1 c33 (o1 c34 (o1 c35 (oR on))))))) (ih v7 (w64 (v8 + 1)) h)
            · replace h := iq c35 h
              by_cases c36 : (rdD z74 a0.f6 v8).f1 = t2
              · replace h := ip c36 h
                obtain ⟨c37, h⟩ := ifN h
                obtain ⟨c38, h⟩ := ifN h
                obtain ⟨t9, g39, h⟩ := bindN h
                let C39 := mkCon (impl_isHeld.ok kq a0.f1 (rdD 0 ((rdD z72 a0.f5.f2 v8).f0) (w64 ((rdD z74 a0.f6 v8).f1 + 1))) t9 g39) impl_isHeld.go
                by_cases c40 : t9 = true
                · replace h := ip c40 h
                  exact hd func17 [.b true, .dec 35 false, .dec 41 false, .call C39, .b true, .fin, .fin] (oT c32 (o1 c33 (o1 c32 (o1 c33 (o1 c34 (o1 (eqf c35) (o1 (bnf (decide_eq_true c36)) (o1 c37 (o1 c38 (oc C39 (o1 c40 on))))))))))) (ih v7 (w64 (v8 + 1)) h)
                · replace h := iq c40 h
                  obtain ⟨c41, h⟩ := ifN h
                  obtain ⟨c42, h⟩ := ifN h
                  obtain ⟨c43, h⟩ := ifN h
                  exact hd func17 [.b true, .dec 35 false, .dec 41 false, .call C39, .b false, rowe 67 e92 z92 ([(⟨(rdD z74 a0.f6 v8).f0, (rdD 0 ((rdD z72 a0.f5.f2 v8).f0) ((rdD z74 a0.f6 v8).f1)), (rdD 0 ((rdD z72 a0.f5.f2 v8).f0) (w64 ((rdD z74 a0.f6 v8).f1 + 1)))⟩ : S92)]), .aft 68, orow 320256 e92 z92 (v7 ++ [(⟨(rdD z74 a0.f6 v8).f0, (rdD 0 ((rdD z72 a0.f5.f2 v8).f0) ((rdD z74 a0.f6 v8).f1)), (rdD 0 ((rdD z72 a0.f5.f2 v8).f0) (w64 ((rdD z74 a0.f6 v8).f1 + 1)))⟩ : S92)]), .fin] (oT c32 (o1 c33 (o1 c32 (o1 c33 (o1 c34 (o1 (eqf c35) (o1 (bnf (decide_eq_true c36)) (o1 c37 (o1 c38 (oc C39 (o1 (eqf c40) (o1 c41 (o1 c42 (o1 c37 (o1 c38 (o1 (GE.lit 3 e92 z92 [(⟨(rdD z74 a0.f6 v8).f0, (rdD 0 ((rdD z72 a0.f5.f2 v8).f0) ((rdD z74 a0.f6 v8).f1)), (rdD 0 ((rdD z72 a0.f5.f2 v8).f0) (w64 ((rdD z74 a0.f6 v8).f1 + 1)))⟩ : S92)] (by intro x; rfl)) (o1 c43 (o1 (GE.app (e := e92) (d := z92) v7 ([(⟨(rdD z74 a0.f6 v8).f0, (rdD 0 ((rdD z72 a0.f5.f2 v8).f0) ((rdD z74 a0.f6 v8).f1)), (rdD 0 ((rdD z72 a0.f5.f2 v8).f0) (w64 ((rdD z74 a0.f6 v8).f1 + 1)))⟩ : S92)]) rfl (fun _ _ => CE.refl _) rfl) on)))))))))))))))))) (ih (v7 ++ [(⟨(rdD z74 a0.f6 v8).f0, (rdD 0 ((rdD z72 a0.f5.f2 v8).f0) ((rdD z74 a0.f6 v8).f1)), (rdD 0 ((rdD z72 a0.f5.f2 v8).f0) (w64 ((rdD z74 a0.f6 v8).f1 + 1)))⟩ : S92)]) (w64 (v8 + 1)) h)
              · replace h := iq c36 h
                exact hd func17 [.b true, .dec 35 false, .dec 41 true, .b true, .fin, .fin] (oT c32 (o1 c33 (o1 c32 (o1 c33 (o1 c34 (o1 (eqf c35) (o1 (bnt (decide_eq_false c36)) (oR on)))))))) (ih v7 (w64 (v8 + 1)) h)
          · replace h := iq c32 h
            cases h
            exact rt func17 [.b false, .fin, .fin] (oF c32 on)
      exact hd func17 [.call C1, .dec 11 false, .b false, .call C4, .fin, .nil 4 320256 92 3, orow 320256 e92 z92 ([] : List S92)] (oc C1 (o1 (bnf c2) (o1 (bnf c3) (oc C4 (o1 (GE.nil e92 z92) on))))) (H0 k ([] : List S92) 0 h)
    · replace h := iq c3 h
      cases h
      exact rt func17 [.call C1, .dec 11 false, .b true, .fin, .nil 2 384128 92 3, orow 384128 e92 z92 ([] : List S92)] (oc C1 (o1 (bnf c2) (oN c3 (o1 (GE.nil e92 z92) on))))
  · replace h := iq c2 h
    cases h
    exact rt func17 [.call C1, .dec 11 true, .b true, .fin, .nil 2 384128 92 3, orow 384128 e92 z92 ([] : List S92)] (oc C1 (oN c2 (oR (o1 (GE.nil e92 z92) on))))

/-! ### impl_Issued_1: function 60 -/
def impl_Issued_1.f (a0 : S74) (a1 : S92) : Option Bool := some (decide (a0.f0 = a1.f0))
theorem impl_Issued_1.go : Callable prog 60 := ⟨_, func60, by kernel_rfl, rfl⟩
theorem impl_Issued_1.ok (a0 : S74) (a1 : S92) (r : Bool) (h : impl_Issued_1.f a0 a1 = some r) : VCalls prog 60 [.agg (e74 a0), .ptr [.sc (.int .i64 a1.f0), .sc (.int .i64 a1.f1), .sc (.int .i64 a1.f2)]] [.c (.p (.sc (.bool r)))] := by
  unfold impl_Issued_1.f at h
  refine VCalls.of (fn := f60) (N := 9) func60 rfl rfl (fun w0 => ?_)
  cases h
  exact rt func60 [.fin] on

/-! ### impl_Issued: function 22 -/
def impl_Issued.h0T (t2 : List S92) (v14 : Int) (t1 : S48) (v12 : List S69) (v13 : List S74) : List (Nat × AV) := [(2, .ptr 128 0), (3, .ptr 192 0), (9, .t (.c (.h 576))), (10, .t (.c (.p true (.sc (.int .i64 (t2.length : Int)))))), (11, .t (.c (.p true (iI v14))))]
def impl_Issued.h0H (t2 : List S92) (v14 : Int) (t1 : S48) (v12 : List S69) (v13 : List S74) : List (Nat × Content) := [(128, .box 48 [.p true (iI 0), .p true (iI 0), .p true (.sc (.string (⟨#[]⟩ : ByteArray))), .p true (iI 0), .p true (iI 0), .p true (iI 0), .p true (iI 0), .p true (.sc (.slice none 0 0)), .p true (iI 0), .p true (iI 0), .p true (.sc (.slice none 0 0)), .p true (iI 0), .p true (.sc (.bool false)), .p true (iI 0), .p true (iI 0), .p true (.sc (.slice none 0 0)), .p true (.sc (.slice none 0 0)), .p true (.sc (.slice none 0 0))]), (192, .box 48 [.p true (iI t1.f0.f0.f0), .p true (iI t1.f0.f0.f1), .p true (.sc (.string t1.f0.f0.f2)), .p true (iI t1.f0.f1), .p true (iI t1.f0.f2), .p true (iI t1.f0.f3), .p true (iI t1.f0.f4), .h 455, .p true (iI t1.f2.f0), .p true (iI t1.f2.f1), .h 458, .p true (iI t1.f3), .p true (.sc (.bool t1.f4)), .p true (iI t1.f5.f0), .p true (iI t1.f5.f1), .hn 463, .h 464, .h 465]), (455, .row 69 4 v12.length (fun j => e69 (v12.getD j z69)) true), (458, .row 3 1 t1.f2.f2.length (fun j => (eI .i64) (t1.f2.f2.getD j 0)) true), (463, NC 72 3 S72.f0 (Value.int .i64) z72 0 t1.f5.f2), (464, .row 74 3 v13.length (fun j => e74 (v13.getD j z74)) true), (465, .row 3 1 t1.f7.length (fun j => (eI .i64) (t1.f7.getD j 0)) true), (576, .row 92 3 t2.length (fun j => e92 (t2.getD j z92)) true)]
def impl_Issued.l0 : Nat → List S92 → S48 → List S69 → List S74 → Int → Option S48
  | 0, _, _, _, _, _ => none
  | kq + 1, t2, t1, v12, v13, v14 => if v14 < (t2.length : Int) then (if 0 ≤ v14 then ((slices_IndexFunc_impl_Job_impl_Job_3.f kq v13 (fun x31 => impl_Issued_1.f x31 (rdD z92 t2 v14))).bind fun t15 => if 0 ≤ t15 then (if t15 < (v13.length : Int) then ((impl_RobotAt.f kq v12 ((rdD z92 t2 v14).f0)).bind fun t16 => if 0 ≤ t16 then (if t16 < (v12.length : Int) then (impl_Issued.l0 kq t2 t1 (v12.set t16.toNat (⟨(rdD z69 v12 t16).f0, (rdD z69 v12 t16).f1, (rdD z92 t2 v14).f2, (rdD z69 v12 t16).f3⟩ : S69)) (v13.set t15.toNat (⟨(rdD z74 v13 t15).f0, (rdD z74 v13 t15).f1, true⟩ : S74)) (w64 (v14 + 1))) else none) else none) else none) else none) else none) else (some (⟨t1.f0, v12, t1.f2, t1.f3, t1.f4, t1.f5, v13, t1.f7⟩ : S48))
def impl_Issued.f (k : Nat) (a0 : S48) : Option S48 := (impl_copyYard.f k a0).bind fun t1 => (impl_OrdersOf.f k a0).bind fun t2 => impl_Issued.l0 k t2 t1 t1.f1 t1.f6 0
theorem impl_Issued.go : Callable prog 22 := ⟨_, func22, by kernel_rfl, rfl⟩
theorem impl_Issued.ok (k : Nat) (a0 : S48) (r : S48) (h : impl_Issued.f k a0 = some r) : VCalls prog 22 [.agg (e48 a0)] [.agg (rn48 r)] := by
  unfold impl_Issued.f at h
  refine VCalls.of (fn := f22) (N := 36) func22 rfl rfl (fun w0 => ?_)
  obtain ⟨t1, g1, h⟩ := bindN h
  let C1 := mkCon (impl_copyYard.ok k a0 t1 g1) impl_copyYard.go
  obtain ⟨t2, g2, h⟩ := bindN h
  let C2 := mkCon (impl_OrdersOf.ok k a0 t2 g2) impl_OrdersOf.go
  have H0 : ∀ (kq : Nat) (v12 : List S69) (v13 : List S74) (v14 : Int), impl_Issued.l0 kq t2 t1 v12 v13 v14 = some r → AG prog 22 36 [.agg (rn48 r)] w0 (headStk (codeOf f22) 0) (mkFS (impl_Issued.h0T t2 v14 t1 v12 v13) (impl_Issued.h0H t2 v14 t1 v12 v13)) := by
    intro kq
    induction kq with
    | zero => intro v12 v13 v14 h; cases h
    | succ kq ih =>
      intro v12 v13 v14 h
      rw [impl_Issued.l0] at h
      by_cases c29 : v14 < (t2.length : Int)
      · replace h := ip c29 h
        obtain ⟨c30, h⟩ := ifN h
        obtain ⟨t15, g32, h⟩ := bindN h
        let C32 := mkCon (slices_IndexFunc_impl_Job_impl_Job_3.ok kq v13 (fun x31 => impl_Issued_1.f x31 (rdD z92 t2 v14)) 60 (.sc (.int .i64 ((rdD z92 t2 v14).f0))) (.sc (.int .i64 ((rdD z92 t2 v14).f1))) (.sc (.int .i64 ((rdD z92 t2 v14).f2))) (fun x31 r h => impl_Issued_1.ok x31 (rdD z92 t2 v14) r h) impl_Issued_1.go t15 g32) slices_IndexFunc_impl_Job_impl_Job_3.go
        obtain ⟨c33, h⟩ := ifN h
        obtain ⟨c34, h⟩ := ifN h
        obtain ⟨t16, g35, h⟩ := bindN h
        let C35 := mkCon (impl_RobotAt.ok kq v12 ((rdD z92 t2 v14).f0) t16 g35) impl_RobotAt.go
        obtain ⟨c36, h⟩ := ifN h
        obtain ⟨c37, h⟩ := ifN h
        exact hd func22 [.b true, .call C32, .aft 999999, orow 464 e74 z74 (v13.set t15.toNat (⟨(rdD z74 v13 t15).f0, (rdD z74 v13 t15).f1, true⟩ : S74)), .call C35, .aft 999999, orow 455 e69 z69 (v12.set t16.toNat (⟨(rdD z69 v12 t16).f0, (rdD z69 v12 t16).f1, (rdD z92 t2 v14).f2, (rdD z69 v12 t16).f3⟩ : S69)), .fin] (oT c29 (o1 c30 (o1 c29 (oc C32 (o1 c33 (o1 c34 (o1 (GE.set (e := e74) (d := z74) v13 t15.toNat (⟨(rdD z74 v13 t15).f0, (rdD z74 v13 t15).f1, true⟩ : S74) (lt_toNat c33 c34) rfl) (oc C35 (o1 c36 (o1 c37 (o1 (GE.set (e := e69) (d := z69) v12 t16.toNat (⟨(rdD z69 v12 t16).f0, (rdD z69 v12 t16).f1, (rdD z92 t2 v14).f2, (rdD z69 v12 t16).f3⟩ : S69) (lt_toNat c36 c37) rfl) on))))))))))) (ih (v12.set t16.toNat (⟨(rdD z69 v12 t16).f0, (rdD z69 v12 t16).f1, (rdD z92 t2 v14).f2, (rdD z69 v12 t16).f3⟩ : S69)) (v13.set t15.toNat (⟨(rdD z74 v13 t15).f0, (rdD z74 v13 t15).f1, true⟩ : S74)) (w64 (v14 + 1)) h)
      · replace h := iq c29 h
        cases h
        exact rt func22 [.b false, .fin, .fin] (oF c29 on)
  exact hd func22 [.call C1, .call C2, .fin] (oc C1 (oc C2 on)) (H0 k t1.f1 t1.f6 0 h)

/-! ### laws_eqGrid: function 106 -/
def laws_eqGrid.f (a0 : S38) (a1 : S38) : Option Bool := if a0.f0 = a1.f0 then (if a0.f1 = a1.f1 then (if (a0.f2.toList == a1.f2.toList) = true then (some true) else (some false)) else (some false)) else (some false)
theorem laws_eqGrid.go : Callable prog 106 := ⟨_, func106, by kernel_rfl, rfl⟩
theorem laws_eqGrid.ok (a0 : S38) (a1 : S38) (r : Bool) (h : laws_eqGrid.f a0 a1 = some r) : VCalls prog 106 [.agg (e38 a0), .agg (e38 a1)] [.c (.p (.sc (.bool r)))] := by
  unfold laws_eqGrid.f at h
  refine VCalls.of (fn := f106) (N := 20) func106 rfl rfl (fun w0 => ?_)
  by_cases c1 : a0.f0 = a1.f0
  · replace h := ip c1 h
    by_cases c2 : a0.f1 = a1.f1
    · replace h := ip c2 h
      by_cases c3 : (a0.f2.toList == a1.f2.toList) = true
      · replace h := ip c3 h
        cases h
        exact rt func106 [.b false, .b false, .b false, .fin] (o1 (bnf (decide_eq_true c1)) (o1 (bnf (decide_eq_true c2)) (o1 (bnf c3) on)))
      · replace h := iq c3 h
        cases h
        exact rt func106 [.b false, .b false, .b true, .fin] (o1 (bnf (decide_eq_true c1)) (o1 (bnf (decide_eq_true c2)) (oN c3 on)))
    · replace h := iq c2 h
      cases h
      exact rt func106 [.b false, .b true, .fin] (o1 (bnf (decide_eq_true c1)) (o1 (bnt (decide_eq_false c2)) on))
  · replace h := iq c1 h
    cases h
    exact rt func106 [.b true, .fin] (o1 (bnt (decide_eq_false c1)) on)

/-! ### laws_eqSetup: function 42 -/
def laws_eqSetup.f (a0 : S40) (a1 : S40) : Option Bool := (laws_eqGrid.f a0.f0 a1.f0).bind fun t1 => if t1 = true then (if a0.f1 = a1.f1 then (if a0.f2 = a1.f2 then (if a0.f3 = a1.f3 then (if a0.f4 = a1.f4 then (some true) else (some false)) else (some false)) else (some false)) else (some false)) else (some false)
theorem laws_eqSetup.go : Callable prog 42 := ⟨_, func42, by kernel_rfl, rfl⟩
theorem laws_eqSetup.ok (a0 : S40) (a1 : S40) (r : Bool) (h : laws_eqSetup.f a0 a1 = some r) : VCalls prog 42 [.agg (e40 a0), .agg (e40 a1)] [.c (.p (.sc (.bool r)))] := by
  unfold laws_eqSetup.f at h
  refine VCalls.of (fn := f42) (N := 31) func42 rfl rfl (fun w0 => ?_)
  obtain ⟨t1, g1, h⟩ := bindN h
  let C1 := mkCon (laws_eqGrid.ok a0.f0 a1.f0 t1 g1) laws_eqGrid.go
  by_cases c2 : t1 = true
  · replace h := ip c2 h
    by_cases c3 : a0.f1 = a1.f1
    · replace h := ip c3 h
      by_cases c4 : a0.f2 = a1.f2
      · replace h := ip c4 h
        by_cases c5 : a0.f3 = a1.f3
        · replace h := ip c5 h
          by_cases c6 : a0.f4 = a1.f4
          · replace h := ip c6 h
            cases h
            exact rt func42 [.call C1, .b false, .b false, .b false, .b false, .b false, .fin] (oc C1 (o1 (bnf c2) (o1 (bnf (decide_eq_true c3)) (o1 (bnf (decide_eq_true c4)) (o1 (bnf (decide_eq_true c5)) (o1 (bnf (decide_eq_true c6)) on))))))
          · replace h := iq c6 h
            cases h
            exact rt func42 [.call C1, .b false, .b false, .b false, .b false, .b true, .fin] (oc C1 (o1 (bnf c2) (o1 (bnf (decide_eq_true c3)) (o1 (bnf (decide_eq_true c4)) (o1 (bnf (decide_eq_true c5)) (o1 (bnt (decide_eq_false c6)) on))))))
        · replace h := iq c5 h
          cases h
          exact rt func42 [.call C1, .b false, .b false, .b false, .b true, .fin] (oc C1 (o1 (bnf c2) (o1 (bnf (decide_eq_true c3)) (o1 (bnf (decide_eq_true c4)) (o1 (bnt (decide_eq_false c5)) on)))))
      · replace h := iq c4 h
        cases h
        exact rt func42 [.call C1, .b false, .b false, .b true, .fin] (oc C1 (o1 (bnf c2) (o1 (bnf (decide_eq_true c3)) (o1 (bnt (decide_eq_false c4)) on))))
    · replace h := iq c3 h
      cases h
      exact rt func42 [.call C1, .b false, .b true, .fin] (oc C1 (o1 (bnf c2) (o1 (bnt (decide_eq_false c3)) on)))
  · replace h := iq c2 h
    cases h
    exact rt func42 [.call C1, .b true, .fin] (oc C1 (oN c2 on))

/-! ### laws_eqRobot: function 107 -/
def laws_eqRobot.f (a0 : S69) (a1 : S69) : Option Bool := if a0.f0 = a1.f0 then (if a0.f1 = a1.f1 then (if a0.f2 = a1.f2 then (if (a0.f3 == a1.f3) = true then (some true) else (some false)) else (some false)) else (some false)) else (some false)
theorem laws_eqRobot.go : Callable prog 107 := ⟨_, func107, by kernel_rfl, rfl⟩
theorem laws_eqRobot.ok (a0 : S69) (a1 : S69) (r : Bool) (h : laws_eqRobot.f a0 a1 = some r) : VCalls prog 107 [.agg (e69 a0), .agg (e69 a1)] [.c (.p (.sc (.bool r)))] := by
  unfold laws_eqRobot.f at h
  refine VCalls.of (fn := f107) (N := 25) func107 rfl rfl (fun w0 => ?_)
  by_cases c1 : a0.f0 = a1.f0
  · replace h := ip c1 h
    by_cases c2 : a0.f1 = a1.f1
    · replace h := ip c2 h
      by_cases c3 : a0.f2 = a1.f2
      · replace h := ip c3 h
        by_cases c4 : (a0.f3 == a1.f3) = true
        · replace h := ip c4 h
          cases h
          exact rt func107 [.b false, .b false, .b false, .b false, .fin] (o1 (bnf (decide_eq_true c1)) (o1 (bnf (decide_eq_true c2)) (o1 (bnf (decide_eq_true c3)) (o1 (bnf c4) on))))
        · replace h := iq c4 h
          cases h
          exact rt func107 [.b false, .b false, .b false, .b true, .fin] (o1 (bnf (decide_eq_true c1)) (o1 (bnf (decide_eq_true c2)) (o1 (bnf (decide_eq_true c3)) (oN c4 on))))
      · replace h := iq c3 h
        cases h
        exact rt func107 [.b false, .b false, .b true, .fin] (o1 (bnf (decide_eq_true c1)) (o1 (bnf (decide_eq_true c2)) (o1 (bnt (decide_eq_false c3)) on)))
    · replace h := iq c2 h
      cases h
      exact rt func107 [.b false, .b true, .fin] (o1 (bnf (decide_eq_true c1)) (o1 (bnt (decide_eq_false c2)) on))
  · replace h := iq c1 h
    cases h
    exact rt func107 [.b true, .fin] (o1 (bnt (decide_eq_false c1)) on)

/-! ### laws_eqRobotS: function 43 -/
def laws_eqRobotS.h0T (a0 : List S69) (a1 : List S69) (v2 : Int) : List (Nat × AV) := [(0, .t (.c (.p false (R 4 e69 z69 a0)))), (1, .t (.c (.p false (R 4 e69 z69 a1)))), (5, .t (.c (.p true (iI v2))))]
def laws_eqRobotS.h0H (a0 : List S69) (a1 : List S69) (v2 : Int) : List (Nat × Content) := []
def laws_eqRobotS.l0 : Nat → List S69 → List S69 → Int → Option Bool
  | 0, _, _, _ => none
  | kq + 1, a0, a1, v2 => if v2 < (a0.length : Int) then (if 0 ≤ v2 then (if v2 < (a1.length : Int) then ((laws_eqRobot.f (rdD z69 a0 v2) (rdD z69 a1 v2)).bind fun t3 => if t3 = true then (laws_eqRobotS.l0 kq a0 a1 (w64 (v2 + 1))) else (some false)) else none) else none) else (some true)
def laws_eqRobotS.f (k : Nat) (a0 : List S69) (a1 : List S69) : Option Bool := if (a0.length : Int) = (a1.length : Int) then (laws_eqRobotS.l0 k a0 a1 0) else (some false)
theorem laws_eqRobotS.go : Callable prog 43 := ⟨_, func43, by kernel_rfl, rfl⟩
theorem laws_eqRobotS.ok (k : Nat) (a0 : List S69) (a1 : List S69) (r : Bool) (h : laws_eqRobotS.f k a0 a1 = some r) : VCalls prog 43 [.c (R 4 e69 z69 a0), .c (R 4 e69 z69 a1)] [.c (.p (.sc (.bool r)))] := by
  unfold laws_eqRobotS.f at h
  refine VCalls.of (fn := f43) (N := 27) func43 rfl rfl (fun w0 => ?_)
  by_cases c1 : (a0.length : Int) = (a1.length : Int)
  · replace h := ip c1 h
    have H0 : ∀ (kq : Nat) (v2 : Int), laws_eqRobotS.l0 kq a0 a1 v2 = some r → AG prog 43 27 [.c (.p (.sc (.bool r)))] w0 (headStk (codeOf f43) 0) (mkFS (laws_eqRobotS.h0T a0 a1 v2) (laws_eqRobotS.h0H a0 a1 v2)) := by
      intro kq
      induction kq with
      | zero => intro v2 h; cases h
      | succ kq ih =>
        intro v2 h
        rw [laws_eqRobotS.l0] at h
        by_cases c6 : v2 < (a0.length : Int)
        · replace h := ip c6 h
          obtain ⟨c7, h⟩ := ifN h
          obtain ⟨c8, h⟩ := ifN h
          obtain ⟨t3, g9, h⟩ := bindN h
          let C9 := mkCon (laws_eqRobot.ok (rdD z69 a0 v2) (rdD z69 a1 v2) t3 g9) laws_eqRobot.go
          by_cases c10 : t3 = true
          · replace h := ip c10 h
            exact hd func43 [.b true, .call C9, .b false, .fin] (oT c6 (o1 c7 (o1 c6 (o1 c7 (o1 c8 (oc C9 (o1 (bnf c10) on))))))) (ih (w64 (v2 + 1)) h)
          · replace h := iq c10 h
            cases h
            exact rt func43 [.b true, .call C9, .b true, .fin] (oT c6 (o1 c7 (o1 c6 (o1 c7 (o1 c8 (oc C9 (oN c10 on)))))))
        · replace h := iq c6 h
          cases h
          exact rt func43 [.b false, .fin, .fin] (oF c6 on)
    exact hd func43 [.b false, .fin] (o1 (bnf (decide_eq_true c1)) on) (H0 k 0 h)
  · replace h := iq c1 h
    cases h
    exact rt func43 [.b true, .fin] (o1 (bnt (decide_eq_false c1)) on)

/-! ### laws_eqIntS: function 11 -/
def laws_eqIntS.h0T (a0 : List Int) (a1 : List Int) (v1 : Int) : List (Nat × AV) := [(0, .t (.c (.p false (R 1 (eI .i64) 0 a0)))), (1, .t (.c (.p false (R 1 (eI .i64) 0 a1)))), (5, .t (.c (.p true (iI v1))))]
def laws_eqIntS.h0H (a0 : List Int) (a1 : List Int) (v1 : Int) : List (Nat × Content) := []
def laws_eqIntS.l0 : Nat → List Int → List Int → Int → Option Bool
  | 0, _, _, _ => none
  | kq + 1, a0, a1, v1 => if v1 < (a0.length : Int) then (if 0 ≤ v1 then (if v1 < (a1.length : Int) then (if (rdD 0 a0 v1) = (rdD 0 a1 v1) then (laws_eqIntS.l0 kq a0 a1 (w64 (v1 + 1))) else (some false)) else none) else none) else (some true)
def laws_eqIntS.f (k : Nat) (a0 : List Int) (a1 : List Int) : Option Bool := if (a0.length : Int) = (a1.length : Int) then (laws_eqIntS.l0 k a0 a1 0) else (some false)
theorem laws_eqIntS.go : Callable prog 11 := ⟨_, func11, by kernel_rfl, rfl⟩
theorem laws_eqIntS.ok (k : Nat) (a0 : List Int) (a1 : List Int) (r : Bool) (h : laws_eqIntS.f k a0 a1 = some r) : VCalls prog 11 [.c (R 1 (eI .i64) 0 a0), .c (R 1 (eI .i64) 0 a1)] [.c (.p (.sc (.bool r)))] := by
  unfold laws_eqIntS.f at h
  refine VCalls.of (fn := f11) (N := 26) func11 rfl rfl (fun w0 => ?_)
  by_cases c1 : (a0.length : Int) = (a1.length : Int)
  · replace h := ip c1 h
    have H0 : ∀ (kq : Nat) (v1 : Int), laws_eqIntS.l0 kq a0 a1 v1 = some r → AG prog 11 26 [.c (.p (.sc (.bool r)))] w0 (headStk (codeOf f11) 0) (mkFS (laws_eqIntS.h0T a0 a1 v1) (laws_eqIntS.h0H a0 a1 v1)) := by
      intro kq
      induction kq with
      | zero => intro v1 h; cases h
      | succ kq ih =>
        intro v1 h
        rw [laws_eqIntS.l0] at h
        by_cases c5 : v1 < (a0.length : Int)
        · replace h := ip c5 h
          obtain ⟨c6, h⟩ := ifN h
          obtain ⟨c7, h⟩ := ifN h
          by_cases c8 : (rdD 0 a0 v1) = (rdD 0 a1 v1)
          · replace h := ip c8 h
            exact hd func11 [.b true, .b false, .fin] (oT c5 (o1 c6 (o1 c5 (o1 c6 (o1 c7 (o1 (bnf (decide_eq_true c8)) on)))))) (ih (w64 (v1 + 1)) h)
          · replace h := iq c8 h
            cases h
            exact rt func11 [.b true, .b true, .fin] (oT c5 (o1 c6 (o1 c5 (o1 c6 (o1 c7 (o1 (bnt (decide_eq_false c8)) on))))))
        · replace h := iq c5 h
          cases h
          exact rt func11 [.b false, .fin, .fin] (oF c5 on)
    exact hd func11 [.b false, .fin] (o1 (bnf (decide_eq_true c1)) on) (H0 k 0 h)
  · replace h := iq c1 h
    cases h
    exact rt func11 [.b true, .fin] (o1 (bnt (decide_eq_false c1)) on)

/-! ### laws_eqWindow: function 44 -/
def laws_eqWindow.f (k : Nat) (a0 : S42) (a1 : S42) : Option Bool := if a0.f0 = a1.f0 then (if a0.f1 = a1.f1 then ((laws_eqIntS.f k a0.f2 a1.f2).bind fun t1 => if t1 = true then (some true) else (some false)) else (some false)) else (some false)
theorem laws_eqWindow.go : Callable prog 44 := ⟨_, func44, by kernel_rfl, rfl⟩
theorem laws_eqWindow.ok (k : Nat) (a0 : S42) (a1 : S42) (r : Bool) (h : laws_eqWindow.f k a0 a1 = some r) : VCalls prog 44 [.agg (e42 a0), .agg (e42 a1)] [.c (.p (.sc (.bool r)))] := by
  unfold laws_eqWindow.f at h
  refine VCalls.of (fn := f44) (N := 21) func44 rfl rfl (fun w0 => ?_)
  by_cases c1 : a0.f0 = a1.f0
  · replace h := ip c1 h
    by_cases c2 : a0.f1 = a1.f1
    · replace h := ip c2 h
      obtain ⟨t1, g3, h⟩ := bindN h
      let C3 := mkCon (laws_eqIntS.ok k a0.f2 a1.f2 t1 g3) laws_eqIntS.go
      by_cases c4 : t1 = true
      · replace h := ip c4 h
        cases h
        exact rt func44 [.b false, .b false, .call C3, .b false, .fin] (o1 (bnf (decide_eq_true c1)) (o1 (bnf (decide_eq_true c2)) (oc C3 (o1 (bnf c4) on))))
      · replace h := iq c4 h
        cases h
        exact rt func44 [.b false, .b false, .call C3, .b true, .fin] (o1 (bnf (decide_eq_true c1)) (o1 (bnf (decide_eq_true c2)) (oc C3 (oN c4 on))))
    · replace h := iq c2 h
      cases h
      exact rt func44 [.b false, .b true, .fin] (o1 (bnf (decide_eq_true c1)) (o1 (bnt (decide_eq_false c2)) on))
  · replace h := iq c1 h
    cases h
    exact rt func44 [.b true, .fin] (o1 (bnt (decide_eq_false c1)) on)

/-! ### laws_eqWay: function 184 -/
def laws_eqWay.f (k : Nat) (a0 : S72) (a1 : S72) : Option Bool := (laws_eqIntS.f k a0.f0 a1.f0).bind fun t1 => if t1 = true then (some true) else (some false)
theorem laws_eqWay.go : Callable prog 184 := ⟨_, func184, by kernel_rfl, rfl⟩
theorem laws_eqWay.ok (k : Nat) (a0 : S72) (a1 : S72) (r : Bool) (h : laws_eqWay.f k a0 a1 = some r) : VCalls prog 184 [.agg (e72 a0), .agg (e72 a1)] [.c (.p (.sc (.bool r)))] := by
  unfold laws_eqWay.f at h
  refine VCalls.of (fn := f184) (N := 11) func184 rfl rfl (fun w0 => ?_)
  obtain ⟨t1, g1, h⟩ := bindN h
  let C1 := mkCon (laws_eqIntS.ok k a0.f0 a1.f0 t1 g1) laws_eqIntS.go
  by_cases c2 : t1 = true
  · replace h := ip c2 h
    cases h
    exact rt func184 [.call C1, .b false, .fin] (oc C1 (o1 (bnf c2) on))
  · replace h := iq c2 h
    cases h
    exact rt func184 [.call C1, .b true, .fin] (oc C1 (oN c2 on))

/-! ### laws_eqWayS: function 108 -/
def laws_eqWayS.h0T (a0 : List S72) (a1 : List S72) (v2 : Int) : List (Nat × AV) := [(0, .t (.c (.p false (R 1 e72 z72 a0)))), (1, .t (.c (.p false (R 1 e72 z72 a1)))), (5, .t (.c (.p true (iI v2))))]
def laws_eqWayS.h0H (a0 : List S72) (a1 : List S72) (v2 : Int) : List (Nat × Content) := []
def laws_eqWayS.l0 : Nat → List S72 → List S72 → Int → Option Bool
  | 0, _, _, _ => none
  | kq + 1, a0, a1, v2 => if v2 < (a0.length : Int) then (if 0 ≤ v2 then (if v2 < (a1.length : Int) then ((laws_eqWay.f kq (rdD z72 a0 v2) (rdD z72 a1 v2)).bind fun t3 => if t3 = true then (laws_eqWayS.l0 kq a0 a1 (w64 (v2 + 1))) else (some false)) else none) else none) else (some true)
def laws_eqWayS.f (k : Nat) (a0 : List S72) (a1 : List S72) : Option Bool := if (a0.length : Int) = (a1.length : Int) then (laws_eqWayS.l0 k a0 a1 0) else (some false)
theorem laws_eqWayS.go : Callable prog 108 := ⟨_, func108, by kernel_rfl, rfl⟩
theorem laws_eqWayS.ok (k : Nat) (a0 : List S72) (a1 : List S72) (r : Bool) (h : laws_eqWayS.f k a0 a1 = some r) : VCalls prog 108 [.c (R 1 e72 z72 a0), .c (R 1 e72 z72 a1)] [.c (.p (.sc (.bool r)))] := by
  unfold laws_eqWayS.f at h
  refine VCalls.of (fn := f108) (N := 27) func108 rfl rfl (fun w0 => ?_)
  by_cases c1 : (a0.length : Int) = (a1.length : Int)
  · replace h := ip c1 h
    have H0 : ∀ (kq : Nat) (v2 : Int), laws_eqWayS.l0 kq a0 a1 v2 = some r → AG prog 108 27 [.c (.p (.sc (.bool r)))] w0 (headStk (codeOf f108) 0) (mkFS (laws_eqWayS.h0T a0 a1 v2) (laws_eqWayS.h0H a0 a1 v2)) := by
      intro kq
      induction kq with
      | zero => intro v2 h; cases h
      | succ kq ih =>
        intro v2 h
        rw [laws_eqWayS.l0] at h
        by_cases c6 : v2 < (a0.length : Int)
        · replace h := ip c6 h
          obtain ⟨c7, h⟩ := ifN h
          obtain ⟨c8, h⟩ := ifN h
          obtain ⟨t3, g9, h⟩ := bindN h
          let C9 := mkCon (laws_eqWay.ok kq (rdD z72 a0 v2) (rdD z72 a1 v2) t3 g9) laws_eqWay.go
          by_cases c10 : t3 = true
          · replace h := ip c10 h
            exact hd func108 [.b true, .call C9, .b false, .fin] (oT c6 (o1 c7 (o1 c6 (o1 c7 (o1 c8 (oc C9 (o1 (bnf c10) on))))))) (ih (w64 (v2 + 1)) h)
          · replace h := iq c10 h
            cases h
            exact rt func108 [.b true, .call C9, .b true, .fin] (oT c6 (o1 c7 (o1 c6 (o1 c7 (o1 c8 (oc C9 (oN c10 on)))))))
        · replace h := iq c6 h
          cases h
          exact rt func108 [.b false, .fin, .fin] (oF c6 on)
    exact hd func108 [.b false, .fin] (o1 (bnf (decide_eq_true c1)) on) (H0 k 0 h)
  · replace h := iq c1 h
    cases h
    exact rt func108 [.b true, .fin] (o1 (bnt (decide_eq_false c1)) on)

/-! ### laws_eqPlan: function 45 -/
def laws_eqPlan.f (k : Nat) (a0 : S45) (a1 : S45) : Option Bool := if a0.f0 = a1.f0 then (if a0.f1 = a1.f1 then ((laws_eqWayS.f k a0.f2 a1.f2).bind fun t1 => if t1 = true then (some true) else (some false)) else (some false)) else (some false)
theorem laws_eqPlan.go : Callable prog 45 := ⟨_, func45, by kernel_rfl, rfl⟩
theorem laws_eqPlan.ok (k : Nat) (a0 : S45) (a1 : S45) (r : Bool) (h : laws_eqPlan.f k a0 a1 = some r) : VCalls prog 45 [.agg (e45 a0), .agg (e45 a1)] [.c (.p (.sc (.bool r)))] := by
  unfold laws_eqPlan.f at h
  refine VCalls.of (fn := f45) (N := 21) func45 rfl rfl (fun w0 => ?_)
  by_cases c1 : a0.f0 = a1.f0
  · replace h := ip c1 h
    by_cases c2 : a0.f1 = a1.f1
    · replace h := ip c2 h
      obtain ⟨t1, g3, h⟩ := bindN h
      let C3 := mkCon (laws_eqWayS.ok k a0.f2 a1.f2 t1 g3) laws_eqWayS.go
      by_cases c4 : t1 = true
      · replace h := ip c4 h
        cases h
        exact rt func45 [.b false, .b false, .call C3, .b false, .fin] (o1 (bnf (decide_eq_true c1)) (o1 (bnf (decide_eq_true c2)) (oc C3 (o1 (bnf c4) on))))
      · replace h := iq c4 h
        cases h
        exact rt func45 [.b false, .b false, .call C3, .b true, .fin] (o1 (bnf (decide_eq_true c1)) (o1 (bnf (decide_eq_true c2)) (oc C3 (oN c4 on))))
    · replace h := iq c2 h
      cases h
      exact rt func45 [.b false, .b true, .fin] (o1 (bnf (decide_eq_true c1)) (o1 (bnt (decide_eq_false c2)) on))
  · replace h := iq c1 h
    cases h
    exact rt func45 [.b true, .fin] (o1 (bnt (decide_eq_false c1)) on)

/-! ### laws_eqJob: function 109 -/
def laws_eqJob.f (a0 : S74) (a1 : S74) : Option Bool := if a0.f0 = a1.f0 then (if a0.f1 = a1.f1 then (if (a0.f2 == a1.f2) = true then (some true) else (some false)) else (some false)) else (some false)
theorem laws_eqJob.go : Callable prog 109 := ⟨_, func109, by kernel_rfl, rfl⟩
theorem laws_eqJob.ok (a0 : S74) (a1 : S74) (r : Bool) (h : laws_eqJob.f a0 a1 = some r) : VCalls prog 109 [.agg (e74 a0), .agg (e74 a1)] [.c (.p (.sc (.bool r)))] := by
  unfold laws_eqJob.f at h
  refine VCalls.of (fn := f109) (N := 20) func109 rfl rfl (fun w0 => ?_)
  by_cases c1 : a0.f0 = a1.f0
  · replace h := ip c1 h
    by_cases c2 : a0.f1 = a1.f1
    · replace h := ip c2 h
      by_cases c3 : (a0.f2 == a1.f2) = true
      · replace h := ip c3 h
        cases h
        exact rt func109 [.b false, .b false, .b false, .fin] (o1 (bnf (decide_eq_true c1)) (o1 (bnf (decide_eq_true c2)) (o1 (bnf c3) on)))
      · replace h := iq c3 h
        cases h
        exact rt func109 [.b false, .b false, .b true, .fin] (o1 (bnf (decide_eq_true c1)) (o1 (bnf (decide_eq_true c2)) (oN c3 on)))
    · replace h := iq c2 h
      cases h
      exact rt func109 [.b false, .b true, .fin] (o1 (bnf (decide_eq_true c1)) (o1 (bnt (decide_eq_false c2)) on))
  · replace h := iq c1 h
    cases h
    exact rt func109 [.b true, .fin] (o1 (bnt (decide_eq_false c1)) on)

/-! ### laws_eqJobS: function 46 -/
def laws_eqJobS.h0T (a0 : List S74) (a1 : List S74) (v2 : Int) : List (Nat × AV) := [(0, .t (.c (.p false (R 3 e74 z74 a0)))), (1, .t (.c (.p false (R 3 e74 z74 a1)))), (5, .t (.c (.p true (iI v2))))]
def laws_eqJobS.h0H (a0 : List S74) (a1 : List S74) (v2 : Int) : List (Nat × Content) := []
def laws_eqJobS.l0 : Nat → List S74 → List S74 → Int → Option Bool
  | 0, _, _, _ => none
  | kq + 1, a0, a1, v2 => if v2 < (a0.length : Int) then (if 0 ≤ v2 then (if v2 < (a1.length : Int) then ((laws_eqJob.f (rdD z74 a0 v2) (rdD z74 a1 v2)).bind fun t3 => if t3 = true then (laws_eqJobS.l0 kq a0 a1 (w64 (v2 + 1))) else (some false)) else none) else none) else (some true)
def laws_eqJobS.f (k : Nat) (a0 : List S74) (a1 : List S74) : Option Bool := if (a0.length : Int) = (a1.length : Int) then (laws_eqJobS.l0 k a0 a1 0) else (some false)
theorem laws_eqJobS.go : Callable prog 46 := ⟨_, func46, by kernel_rfl, rfl⟩
theorem laws_eqJobS.ok (k : Nat) (a0 : List S74) (a1 : List S74) (r : Bool) (h : laws_eqJobS.f k a0 a1 = some r) : VCalls prog 46 [.c (R 3 e74 z74 a0), .c (R 3 e74 z74 a1)] [.c (.p (.sc (.bool r)))] := by
  unfold laws_eqJobS.f at h
  refine VCalls.of (fn := f46) (N := 27) func46 rfl rfl (fun w0 => ?_)
  by_cases c1 : (a0.length : Int) = (a1.length : Int)
  · replace h := ip c1 h
    have H0 : ∀ (kq : Nat) (v2 : Int), laws_eqJobS.l0 kq a0 a1 v2 = some r → AG prog 46 27 [.c (.p (.sc (.bool r)))] w0 (headStk (codeOf f46) 0) (mkFS (laws_eqJobS.h0T a0 a1 v2) (laws_eqJobS.h0H a0 a1 v2)) := by
      intro kq
      induction kq with
      | zero => intro v2 h; cases h
      | succ kq ih =>
        intro v2 h
        rw [laws_eqJobS.l0] at h
        by_cases c6 : v2 < (a0.length : Int)
        · replace h := ip c6 h
          obtain ⟨c7, h⟩ := ifN h
          obtain ⟨c8, h⟩ := ifN h
          obtain ⟨t3, g9, h⟩ := bindN h
          let C9 := mkCon (laws_eqJob.ok (rdD z74 a0 v2) (rdD z74 a1 v2) t3 g9) laws_eqJob.go
          by_cases c10 : t3 = true
          · replace h := ip c10 h
            exact hd func46 [.b true, .call C9, .b false, .fin] (oT c6 (o1 c7 (o1 c6 (o1 c7 (o1 c8 (oc C9 (o1 (bnf c10) on))))))) (ih (w64 (v2 + 1)) h)
          · replace h := iq c10 h
            cases h
            exact rt func46 [.b true, .call C9, .b true, .fin] (oT c6 (o1 c7 (o1 c6 (o1 c7 (o1 c8 (oc C9 (oN c10 on)))))))
        · replace h := iq c6 h
          cases h
          exact rt func46 [.b false, .fin, .fin] (oF c6 on)
    exact hd func46 [.b false, .fin] (o1 (bnf (decide_eq_true c1)) on) (H0 k 0 h)
  · replace h := iq c1 h
    cases h
    exact rt func46 [.b true, .fin] (o1 (bnt (decide_eq_false c1)) on)

/-! ### laws_eqYard: function 12 -/
def laws_eqYard.f (k : Nat) (a0 : S48) (a1 : S48) : Option Bool := (laws_eqSetup.f a0.f0 a1.f0).bind fun t1 => if t1 = true then ((laws_eqRobotS.f k a0.f1 a1.f1).bind fun t2 => if t2 = true then ((laws_eqWindow.f k a0.f2 a1.f2).bind fun t3 => if t3 = true then (if a0.f3 = a1.f3 then (if (a0.f4 == a1.f4) = true then ((laws_eqPlan.f k a0.f5 a1.f5).bind fun t4 => if t4 = true then ((laws_eqJobS.f k a0.f6 a1.f6).bind fun t5 => if t5 = true then ((laws_eqIntS.f k a0.f7 a1.f7).bind fun t6 => if t6 = true then (some true) else (some false)) else (some false)) else (some false)) else (some false)) else (some false)) else (some false)) else (some false)) else (some false)
theorem laws_eqYard.go : Callable prog 12 := ⟨_, func12, by kernel_rfl, rfl⟩
theorem laws_eqYard.ok (k : Nat) (a0 : S48) (a1 : S48) (r : Bool) (h : laws_eqYard.f k a0 a1 = some r) : VCalls prog 12 [.agg (e48 a0), .agg (e48 a1)] [.c (.p (.sc (.bool r)))] := by
  unfold laws_eqYard.f at h
  refine VCalls.of (fn := f12) (N := 51) func12 rfl rfl (fun w0 => ?_)
  obtain ⟨t1, g1, h⟩ := bindN h
  let C1 := mkCon (laws_eqSetup.ok a0.f0 a1.f0 t1 g1) laws_eqSetup.go
  by_cases c2 : t1 = true
  · replace h := ip c2 h
    obtain ⟨t2, g3, h⟩ := bindN h
    let C3 := mkCon (laws_eqRobotS.ok k a0.f1 a1.f1 t2 g3) laws_eqRobotS.go
    by_cases c4 : t2 = true
    · replace h := ip c4 h
      obtain ⟨t3, g5, h⟩ := bindN h
      let C5 := mkCon (laws_eqWindow.ok k a0.f2 a1.f2 t3 g5) laws_eqWindow.go
      by_cases c6 : t3 = true
      · replace h := ip c6 h
        by_cases c7 : a0.f3 = a1.f3
        · replace h := ip c7 h
          by_cases c8 : (a0.f4 == a1.f4) = true
          · replace h := ip c8 h
            obtain ⟨t4, g9, h⟩ := bindN h
            let C9 := mkCon (laws_eqPlan.ok k a0.f5 a1.f5 t4 g9) laws_eqPlan.go
            by_cases c10 : t4 = true
            · replace h := ip c10 h
              obtain ⟨t5, g11, h⟩ := bindN h
              let C11 := mkCon (laws_eqJobS.ok k a0.f6 a1.f6 t5 g11) laws_eqJobS.go
              by_cases c12 : t5 = true
              · replace h := ip c12 h
                obtain ⟨t6, g13, h⟩ := bindN h
                let C13 := mkCon (laws_eqIntS.ok k a0.f7 a1.f7 t6 g13) laws_eqIntS.go
                by_cases c14 : t6 = true
                · replace h := ip c14 h
                  cases h
                  exact rt func12 [.call C1, .b false, .call C3, .b false, .call C5, .b false, .b false, .b false, .call C9, .b false, .call C11, .b false, .call C13, .b false, .fin] (oc C1 (o1 (bnf c2) (oc C3 (o1 (bnf c4) (oc C5 (o1 (bnf c6) (o1 (bnf (decide_eq_true c7)) (o1 (bnf c8) (oc C9 (o1 (bnf c10) (oc C11 (o1 (bnf c12) (oc C13 (o1 (bnf c14) on))))))))))))))
                · replace h := iq c14 h
                  cases h
                  exact rt func12 [.call C1, .b false, .call C3, .b false, .call C5, .b false, .b false, .b false, .call C9, .b false, .call C11, .b false, .call C13, .b true, .fin] (oc C1 (o1 (bnf c2) (oc C3 (o1 (bnf c4) (oc C5 (o1 (bnf c6) (o1 (bnf (decide_eq_true c7)) (o1 (bnf c8) (oc C9 (o1 (bnf c10) (oc C11 (o1 (bnf c12) (oc C13 (oN c14 on))))))))))))))
              · replace h := iq c12 h
                cases h
                exact rt func12 [.call C1, .b false, .call C3, .b false, .call C5, .b false, .b false, .b false, .call C9, .b false, .call C11, .b true, .fin] (oc C1 (o1 (bnf c2) (oc C3 (o1 (bnf c4) (oc C5 (o1 (bnf c6) (o1 (bnf (decide_eq_true c7)) (o1 (bnf c8) (oc C9 (o1 (bnf c10) (oc C11 (oN c12 on))))))))))))
            · replace h := iq c10 h
              cases h
              exact rt func12 [.call C1, .b false, .call C3, .b false, .call C5, .b false, .b false, .b false, .call C9, .b true, .fin] (oc C1 (o1 (bnf c2) (oc C3 (o1 (bnf c4) (oc C5 (o1 (bnf c6) (o1 (bnf (decide_eq_true c7)) (o1 (bnf c8) (oc C9 (oN c10 on))))))))))
          · replace h := iq c8 h
            cases h
            exact rt func12 [.call C1, .b false, .call C3, .b false, .call C5, .b false, .b false, .b true, .fin] (oc C1 (o1 (bnf c2) (oc C3 (o1 (bnf c4) (oc C5 (o1 (bnf c6) (o1 (bnf (decide_eq_true c7)) (oN c8 on))))))))
        · replace h := iq c7 h
          cases h
          exact rt func12 [.call C1, .b false, .call C3, .b false, .call C5, .b false, .b true, .fin] (oc C1 (o1 (bnf c2) (oc C3 (o1 (bnf c4) (oc C5 (o1 (bnf c6) (o1 (bnt (decide_eq_false c7)) on)))))))
      · replace h := iq c6 h
        cases h
        exact rt func12 [.call C1, .b false, .call C3, .b false, .call C5, .b true, .fin] (oc C1 (o1 (bnf c2) (oc C3 (o1 (bnf c4) (oc C5 (oN c6 on))))))
    · replace h := iq c4 h
      cases h
      exact rt func12 [.call C1, .b false, .call C3, .b true, .fin] (oc C1 (o1 (bnf c2) (oc C3 (oN c4 on))))
  · replace h := iq c2 h
    cases h
    exact rt func12 [.call C1, .b true, .fin] (oc C1 (oN c2 on))

/-! ### laws_markRobotS: function 47 -/
def laws_markRobotS.h0T (xw : Nat → Value) (v5 : Int) (v6 : Int) (v4 : List S69) : List (Nat × AV) := [(0, .t (.c (.hv 0 (xw 0)))), (1, .t (.c (.p false (iI v5)))), (5, .t (.c (.p true (iI v6))))]
def laws_markRobotS.h0H (xw : Nat → Value) (v5 : Int) (v6 : Int) (v4 : List S69) : List (Nat × Content) := [(0, .row 69 4 v4.length (fun j => e69 (v4.getD j z69)) true)]
def laws_markRobotS.l0 : Nat → List S69 → Int → Int → Option (Int × List S69)
  | 0, _, _, _ => none
  | kq + 1, v4, v5, v6 => if v6 < (v4.length : Int) then (if 0 ≤ v6 then (laws_markRobotS.l0 kq  (v4.set v6.toNat (⟨v5, (w64 (v5 + 1)), (w64 ((w64 (v5 + 1)) + 1)), (decide (((w64 ((w64 ((w64 (v5 + 1)) + 1)) + 1)).tmod 3) = 0))⟩ : S69)) (w64 ((w64 ((w64 ((w64 (v5 + 1)) + 1)) + 1)) + 1)) (w64 (v6 + 1))) else none) else (some (v5, v4))
def laws_markRobotS.f (k : Nat) (a0 : List S69) (a1 : Int) : Option (Int × List S69) := laws_markRobotS.l0 k  a0 a1 0
theorem laws_markRobotS.go : Callable prog 47 := ⟨_, func47, by kernel_rfl, rfl⟩
def laws_markRobotS.cin (a0 : List S69) : List (Nat × Content) := [(0, .row 69 4 a0.length (fun j => e69 (a0.getD j z69)) true)]
def laws_markRobotS.cout (r : Int × List S69) : List (Nat × Content) := [(0, .row 69 4 r.2.length (fun j => e69 (r.2.getD j z69)) true)]
theorem laws_markRobotS.flat (r : Int × List S69) : ∀ p ∈ laws_markRobotS.cout r, flatP p.2 := (flatP_cons (SC.of (e := e69) (d := z69) r.2 (by intro x; rfl)) flatP_nil)
theorem laws_markRobotS.okW (k : Nat) (a0 : List S69) (a1 : Int) (r : Int × List S69) (h : laws_markRobotS.f k a0 a1 = some r) : WOk prog 47 [.t (.c (.h 0)), .t (.c (.p false (iI a1)))] (laws_markRobotS.cin a0) (laws_markRobotS.cout r) (.int .i64 r.1) := by
  unfold laws_markRobotS.f at h
  refine WOk.of (fn := f47) (N := 43) func47 rfl rfl rfl rfl rfl (laws_markRobotS.flat r) (fun w0 xw hB hQ => ?_)
  have H0 : ∀ (kq : Nat) (v4 : List S69) (v5 : Int) (v6 : Int), laws_markRobotS.l0 kq  v4 v5 v6 = some r → AG prog 47 43 [.c (.p (iI r.1))] w0 (headStk (codeOf f47) 0) (mkFS (laws_markRobotS.h0T xw v5 v6 v4) (laws_markRobotS.h0H xw v5 v6 v4)) := by
    intro kq
    induction kq with
    | zero => intro v4 v5 v6 h; cases h
    | succ kq ih =>
      intro v4 v5 v6 h
      rw [laws_markRobotS.l0] at h
      by_cases c5 : v6 < (v4.length : Int)
      · replace h := ip c5 h
        obtain ⟨c6, h⟩ := ifN h
        exact hd func47 [.b true, .aft 999999, orow 0 e69 z69 (v4.set v6.toNat (⟨v5, (rdD z69 v4 v6).f1, (rdD z69 v4 v6).f2, (rdD z69 v4 v6).f3⟩ : S69)), .aft 999999, orow 0 e69 z69 (v4.set v6.toNat (⟨v5, (w64 (v5 + 1)), (rdD z69 v4 v6).f2, (rdD z69 v4 v6).f3⟩ : S69)), .aft 999999, orow 0 e69 z69 (v4.set v6.toNat (⟨v5, (w64 (v5 + 1)), (w64 ((w64 (v5 + 1)) + 1)), (rdD z69 v4 v6).f3⟩ : S69)), .aft 999999, orow 0 e69 z69 (v4.set v6.toNat (⟨v5, (w64 (v5 + 1)), (w64 ((w64 (v5 + 1)) + 1)), (decide (((w64 ((w64 ((w64 (v5 + 1)) + 1)) + 1)).tmod 3) = 0))⟩ : S69)), .fin] (oT c5 (o1 c6 (o1 c5 (o1 (GE.set (e := e69) (d := z69) v4 v6.toNat (⟨v5, (rdD z69 v4 v6).f1, (rdD z69 v4 v6).f2, (rdD z69 v4 v6).f3⟩ : S69) (lt_toNat c6 c5) rfl) (o1 c6 (o1 (lt_set (k := v6.toNat) (v := (⟨v5, (rdD z69 v4 v6).f1, (rdD z69 v4 v6).f2, (rdD z69 v4 v6).f3⟩ : S69)) c5) (o1 (GE.set2 (e := e69) (d := z69) v4 v6.toNat (⟨v5, (rdD z69 v4 v6).f1, (rdD z69 v4 v6).f2, (rdD z69 v4 v6).f3⟩ : S69) (⟨v5, (w64 (v5 + 1)), (rdD z69 v4 v6).f2, (rdD z69 v4 v6).f3⟩ : S69) (lt_toNat c6 c5) (f := fun u => splice u 1 [.sc (.int .i64 (w64 (v5 + 1)))]) rfl) (o1 c6 (o1 (lt_set (k := v6.toNat) (v := (⟨v5, (w64 (v5 + 1)), (rdD z69 v4 v6).f2, (rdD z69 v4 v6).f3⟩ : S69)) c5) (o1 (GE.set2 (e := e69) (d := z69) v4 v6.toNat (⟨v5, (w64 (v5 + 1)), (rdD z69 v4 v6).f2, (rdD z69 v4 v6).f3⟩ : S69) (⟨v5, (w64 (v5 + 1)), (w64 ((w64 (v5 + 1)) + 1)), (rdD z69 v4 v6).f3⟩ : S69) (lt_toNat c6 c5) (f := fun u => splice u 2 [.sc (.int .i64 (w64 ((w64 (v5 + 1)) + 1)))]) rfl) (o1 (by decide : (3 : Int) ≠ 0) (o1 c6 (o1 (lt_set (k := v6.toNat) (v := (⟨v5, (w64 (v5 + 1)), (w64 ((w64 (v5 + 1)) + 1)), (rdD z69 v4 v6).f3⟩ : S69)) c5) (o1 (GE.set2 (e := e69) (d := z69) v4 v6.toNat (⟨v5, (w64 (v5 + 1)), (w64 ((w64 (v5 + 1)) + 1)), (rdD z69 v4 v6).f3⟩ : S69) (⟨v5, (w64 (v5 + 1)), (w64 ((w64 (v5 + 1)) + 1)), (decide (((w64 ((w64 ((w64 (v5 + 1)) + 1)) + 1)).tmod 3) = 0))⟩ : S69) (lt_toNat c6 c5) (f := fun u => splice u 3 [.sc (.bool (decide (((w64 ((w64 ((w64 (v5 + 1)) + 1)) + 1)).tmod 3) = 0)))]) rfl) on)))))))))))))) (ih (v4.set v6.toNat (⟨v5, (w64 (v5 + 1)), (w64 ((w64 (v5 + 1)) + 1)), (decide (((w64 ((w64 ((w64 (v5 + 1)) + 1)) + 1)).tmod 3) = 0))⟩ : S69)) (w64 ((w64 ((w64 ((w64 (v5 + 1)) + 1)) + 1)) + 1)) (w64 (v6 + 1)) h)
      · replace h := iq c5 h
        cases h
        exact byRetW MX func47 hB hQ (laws_markRobotS.flat _) (T := [(0, .t (.c (.hv 0 (xw 0))))]) rfl 1000 [.b false, .fin, .fin] (oF c5 on) (by kernel_rfl)
  exact hd func47 [.fin] on (H0 k a0 a1 0 h)
def laws_markRobotS.con (k : Nat) (a0 : List S69) (a1 : Int) (r : Int × List S69) (h : laws_markRobotS.f k a0 a1 = some r) : WCon prog := ⟨47, [.t (.c (.h 0)), .t (.c (.p false (iI a1)))], laws_markRobotS.cin a0, laws_markRobotS.cout r, .int .i64 r.1, rfl, laws_markRobotS.okW k a0 a1 r h, laws_markRobotS.go⟩

/-! ### laws_markIntS: function 14 -/
def laws_markIntS.h0T (xw : Nat → Value) (v5 : Int) (v6 : Int) (v4 : List Int) : List (Nat × AV) := [(0, .t (.c (.hv 0 (xw 0)))), (1, .t (.c (.p false (iI v5)))), (5, .t (.c (.p true (iI v6))))]
def laws_markIntS.h0H (xw : Nat → Value) (v5 : Int) (v6 : Int) (v4 : List Int) : List (Nat × Content) := [(0, .row 3 1 v4.length (fun j => (eI .i64) (v4.getD j 0)) true)]
def laws_markIntS.l0 : Nat → List Int → Int → Int → Option (Int × List Int)
  | 0, _, _, _ => none
  | kq + 1, v4, v5, v6 => if v6 < (v4.length : Int) then (if 0 ≤ v6 then (laws_markIntS.l0 kq  (v4.set v6.toNat v5) (w64 (v5 + 1)) (w64 (v6 + 1))) else none) else (some (v5, v4))
def laws_markIntS.f (k : Nat) (a0 : List Int) (a1 : Int) : Option (Int × List Int) := laws_markIntS.l0 k  a0 a1 0
theorem laws_markIntS.go : Callable prog 14 := ⟨_, func14, by kernel_rfl, rfl⟩
def laws_markIntS.cin (a0 : List Int) : List (Nat × Content) := [(0, .row 3 1 a0.length (fun j => (eI .i64) (a0.getD j 0)) true)]
def laws_markIntS.cout (r : Int × List Int) : List (Nat × Content) := [(0, .row 3 1 r.2.length (fun j => (eI .i64) (r.2.getD j 0)) true)]
theorem laws_markIntS.flat (r : Int × List Int) : ∀ p ∈ laws_markIntS.cout r, flatP p.2 := (flatP_cons (SC.of (e := (eI .i64)) (d := 0) r.2 (by intro x; rfl)) flatP_nil)
theorem laws_markIntS.okW (k : Nat) (a0 : List Int) (a1 : Int) (r : Int × List Int) (h : laws_markIntS.f k a0 a1 = some r) : WOk prog 14 [.t (.c (.h 0)), .t (.c (.p false (iI a1)))] (laws_markIntS.cin a0) (laws_markIntS.cout r) (.int .i64 r.1) := by
  unfold laws_markIntS.f at h
  refine WOk.of (fn := f14) (N := 19) func14 rfl rfl rfl rfl rfl (laws_markIntS.flat r) (fun w0 xw hB hQ => ?_)
  have H0 : ∀ (kq : Nat) (v4 : List Int) (v5 : Int) (v6 : Int), laws_markIntS.l0 kq  v4 v5 v6 = some r → AG prog 14 19 [.c (.p (iI r.1))] w0 (headStk (codeOf f14) 0) (mkFS (laws_markIntS.h0T xw v5 v6 v4) (laws_markIntS.h0H xw v5 v6 v4)) := by
    intro kq
    induction kq with
    | zero => intro v4 v5 v6 h; cases h
    | succ kq ih =>
      intro v4 v5 v6 h
      rw [laws_markIntS.l0] at h
      by_cases c5 : v6 < (v4.length : Int)
      · replace h := ip c5 h
        obtain ⟨c6, h⟩ := ifN h
        exact hd func14 [.b true, .aft 999999, orow 0 (eI .i64) 0 (v4.set v6.toNat v5), .fin] (oT c5 (o1 c6 (o1 c5 (o1 (GE.set (e := (eI .i64)) (d := 0) v4 v6.toNat v5 (lt_toNat c6 c5) rfl) on)))) (ih (v4.set v6.toNat v5) (w64 (v5 + 1)) (w64 (v6 + 1)) h)
      · replace h := iq c5 h
        cases h
        exact byRetW MX func14 hB hQ (laws_markIntS.flat _) (T := [(0, .t (.c (.hv 0 (xw 0))))]) rfl 1000 [.b false, .fin, .fin] (oF c5 on) (by kernel_rfl)
  exact hd func14 [.fin] on (H0 k a0 a1 0 h)
def laws_markIntS.con (k : Nat) (a0 : List Int) (a1 : Int) (r : Int × List Int) (h : laws_markIntS.f k a0 a1 = some r) : WCon prog := ⟨14, [.t (.c (.h 0)), .t (.c (.p false (iI a1)))], laws_markIntS.cin a0, laws_markIntS.cout r, .int .i64 r.1, rfl, laws_markIntS.okW k a0 a1 r h, laws_markIntS.go⟩

/-! ### laws_markWindow: function 48 -/
def laws_markWindow.f (k : Nat) (a0 : S42) (a1 : Int) : Option (Int × List Int) := (laws_markIntS.f k a0.f2 a1).bind fun t1 => some (t1.1, t1.2)
theorem laws_markWindow.go : Callable prog 48 := ⟨_, func48, by kernel_rfl, rfl⟩
def laws_markWindow.cin (a0 : S42) : List (Nat × Content) := [(2, .row 3 1 a0.f2.length (fun j => (eI .i64) (a0.f2.getD j 0)) true)]
def laws_markWindow.cout (r : Int × List Int) : List (Nat × Content) := [(2, .row 3 1 r.2.length (fun j => (eI .i64) (r.2.getD j 0)) true)]
theorem laws_markWindow.flat (r : Int × List Int) : ∀ p ∈ laws_markWindow.cout r, flatP p.2 := (flatP_cons (SC.of (e := (eI .i64)) (d := 0) r.2 (by intro x; rfl)) flatP_nil)
theorem laws_markWindow.okW (k : Nat) (a0 : S42) (a1 : Int) (r : Int × List Int) (h : laws_markWindow.f k a0 a1 = some r) : WOk prog 48 [.t (.agg [.p false (iI a0.f0), .p false (iI a0.f1), .h 2]), .t (.c (.p false (iI a1)))] (laws_markWindow.cin a0) (laws_markWindow.cout r) (.int .i64 r.1) := by
  unfold laws_markWindow.f at h
  refine WOk.of (fn := f48) (N := 10) func48 rfl rfl rfl rfl rfl (laws_markWindow.flat r) (fun w0 xw hB hQ => ?_)
  obtain ⟨t1, g1, h⟩ := bindN h
  let C1 := laws_markIntS.con k a0.f2 a1 t1 g1
  cases h
  exact byRetW MX func48 hB hQ (laws_markWindow.flat _) (T := [(0, .t (.agg [.p false (iI a0.f0), .p false (iI a0.f1), .hv 2 (xw 2)]))]) rfl 1000 [.callW C1 [(0, 2)], .fin] (oa (scw_ C1) on) (by kernel_rfl)
def laws_markWindow.con (k : Nat) (a0 : S42) (a1 : Int) (r : Int × List Int) (h : laws_markWindow.f k a0 a1 = some r) : WCon prog := ⟨48, [.t (.agg [.p false (iI a0.f0), .p false (iI a0.f1), .h 2]), .t (.c (.p false (iI a1)))], laws_markWindow.cin a0, laws_markWindow.cout r, .int .i64 r.1, rfl, laws_markWindow.okW k a0 a1 r h, laws_markWindow.go⟩

/-! ### laws_markWayS: function 110 -/
def laws_markWayS.h0T (xw : Nat → Value) (v8 : Int) (v9 : Int) (v7 : List S72) : List (Nat × AV) := [(0, .t (.c (.hv 0 (xw 0)))), (1, .t (.c (.p false (iI v8)))), (5, .t (.c (.p true (iI v9))))]
def laws_markWayS.h0H (xw : Nat → Value) (v8 : Int) (v9 : Int) (v7 : List S72) : List (Nat × Content) := [(0, NC 72 3 S72.f0 (Value.int .i64) z72 0 v7)]
def laws_markWayS.l0 : Nat → List S72 → Int → Int → Option (Int × List S72)
  | 0, _, _, _ => none
  | kq + 1, v7, v8, v9 => if v9 < (v7.length : Int) then (if 0 ≤ v9 then ((laws_markIntS.f kq ((v7.getD v9.toNat z72).f0) v8).bind fun t10 => laws_markWayS.l0 kq  (v7.set v9.toNat (⟨t10.2⟩ : S72)) t10.1 (w64 (v9 + 1))) else none) else (some (v8, v7))
def laws_markWayS.f (k : Nat) (a0 : List S72) (a1 : Int) : Option (Int × List S72) := laws_markWayS.l0 k  a0 a1 0
theorem laws_markWayS.go : Callable prog 110 := ⟨_, func110, by kernel_rfl, rfl⟩
def laws_markWayS.cin (a0 : List S72) : List (Nat × Content) := [(0, NC 72 3 S72.f0 (Value.int .i64) z72 0 a0)]
def laws_markWayS.cout (r : Int × List S72) : List (Nat × Content) := [(0, NC 72 3 S72.f0 (Value.int .i64) z72 0 r.2)]
theorem laws_markWayS.flat (r : Int × List S72) : ∀ p ∈ laws_markWayS.cout r, flatP p.2 := (flatP_cons trivial flatP_nil)
theorem laws_markWayS.okW (k : Nat) (a0 : List S72) (a1 : Int) (r : Int × List S72) (h : laws_markWayS.f k a0 a1 = some r) : WOk prog 110 [.t (.c (.hn 0)), .t (.c (.p false (iI a1)))] (laws_markWayS.cin a0) (laws_markWayS.cout r) (.int .i64 r.1) := by
  unfold laws_markWayS.f at h
  refine WOk.of (fn := f110) (N := 20) func110 rfl rfl rfl rfl rfl (laws_markWayS.flat r) (fun w0 xw hB hQ => ?_)
  have H0 : ∀ (kq : Nat) (v7 : List S72) (v8 : Int) (v9 : Int), laws_markWayS.l0 kq  v7 v8 v9 = some r → AG prog 110 20 [.c (.p (iI r.1))] w0 (headStk (codeOf f110) 0) (mkFS (laws_markWayS.h0T xw v8 v9 v7) (laws_markWayS.h0H xw v8 v9 v7)) := by
    intro kq
    induction kq with
    | zero => intro v7 v8 v9 h; cases h
    | succ kq ih =>
      intro v7 v8 v9 h
      rw [laws_markWayS.l0] at h
      by_cases c8 : v9 < (v7.length : Int)
      · replace h := ip c8 h
        obtain ⟨c9, h⟩ := ifN h
        obtain ⟨t10, g10, h⟩ := bindN h
        let C10 := laws_markIntS.con kq ((v7.getD v9.toNat z72).f0) v8 t10 g10
        exact hd func110 [.b true, .callI C10, .aft 18, nrow 0 S72.f0 (Value.int .i64) z72 0 (v7.set v9.toNat (⟨t10.2⟩ : S72)), .fin] (oT c8 (o1 c9 (o1 c8 (o1 (rfl : C10.f = C10.f) (o1 (rfl : List.length ((v7.getD v9.toNat z72).f0) = List.length ((v7.getD v9.toNat z72).f0)) (o1 (innerEq (Value.int .i64) 0 ((v7.getD v9.toNat z72).f0)) (o1 (SC.of (e := (eI .i64)) (d := 0) t10.2 (by intro x; rfl)) (o1 (VE.refl (iI v8)) (o1 (GEN.set S72.f0 (Value.int .i64) z72 0 v7 v9.toNat (⟨t10.2⟩ : S72) (lt_toNat c9 c8) rfl (fun _ => rfl)) on))))))))) (ih (v7.set v9.toNat (⟨t10.2⟩ : S72)) t10.1 (w64 (v9 + 1)) h)
      · replace h := iq c8 h
        cases h
        exact byRetW MX func110 hB hQ (laws_markWayS.flat _) (T := [(0, .t (.c (.hv 0 (xw 0))))]) rfl 1000 [.b false, .fin, .fin] (oF c8 on) (by kernel_rfl)
  exact hd func110 [.fin] on (H0 k a0 a1 0 h)
def laws_markWayS.con (k : Nat) (a0 : List S72) (a1 : Int) (r : Int × List S72) (h : laws_markWayS.f k a0 a1 = some r) : WCon prog := ⟨110, [.t (.c (.hn 0)), .t (.c (.p false (iI a1)))], laws_markWayS.cin a0, laws_markWayS.cout r, .int .i64 r.1, rfl, laws_markWayS.okW k a0 a1 r h, laws_markWayS.go⟩

/-! ### laws_markPlan: function 49 -/
def laws_markPlan.f (k : Nat) (a0 : S45) (a1 : Int) : Option (Int × List S72) := (laws_markWayS.f k a0.f2 a1).bind fun t1 => some (t1.1, t1.2)
theorem laws_markPlan.go : Callable prog 49 := ⟨_, func49, by kernel_rfl, rfl⟩
def laws_markPlan.cin (a0 : S45) : List (Nat × Content) := [(2, NC 72 3 S72.f0 (Value.int .i64) z72 0 a0.f2)]
def laws_markPlan.cout (r : Int × List S72) : List (Nat × Content) := [(2, NC 72 3 S72.f0 (Value.int .i64) z72 0 r.2)]
theorem laws_markPlan.flat (r : Int × List S72) : ∀ p ∈ laws_markPlan.cout r, flatP p.2 := (flatP_cons trivial flatP_nil)
theorem laws_markPlan.okW (k : Nat) (a0 : S45) (a1 : Int) (r : Int × List S72) (h : laws_markPlan.f k a0 a1 = some r) : WOk prog 49 [.t (.agg [.p false (iI a0.f0), .p false (iI a0.f1), .hn 2]), .t (.c (.p false (iI a1)))] (laws_markPlan.cin a0) (laws_markPlan.cout r) (.int .i64 r.1) := by
  unfold laws_markPlan.f at h
  refine WOk.of (fn := f49) (N := 10) func49 rfl rfl rfl rfl rfl (laws_markPlan.flat r) (fun w0 xw hB hQ => ?_)
  obtain ⟨t1, g1, h⟩ := bindN h
  let C1 := laws_markWayS.con k a0.f2 a1 t1 g1
  cases h
  exact byRetW MX func49 hB hQ (laws_markPlan.flat _) (T := [(0, .t (.agg [.p false (iI a0.f0), .p false (iI a0.f1), .hv 2 (xw 2)]))]) rfl 1000 [.callW C1 [(0, 2)], .fin] (oa (scw_ C1) on) (by kernel_rfl)
def laws_markPlan.con (k : Nat) (a0 : S45) (a1 : Int) (r : Int × List S72) (h : laws_markPlan.f k a0 a1 = some r) : WCon prog := ⟨49, [.t (.agg [.p false (iI a0.f0), .p false (iI a0.f1), .hn 2]), .t (.c (.p false (iI a1)))], laws_markPlan.cin a0, laws_markPlan.cout r, .int .i64 r.1, rfl, laws_markPlan.okW k a0 a1 r h, laws_markPlan.go⟩

/-! ### laws_markJobS: function 50 -/
def laws_markJobS.h0T (xw : Nat → Value) (v5 : Int) (v6 : Int) (v4 : List S74) : List (Nat × AV) := [(0, .t (.c (.hv 0 (xw 0)))), (1, .t (.c (.p false (iI v5)))), (5, .t (.c (.p true (iI v6))))]
def laws_markJobS.h0H (xw : Nat → Value) (v5 : Int) (v6 : Int) (v4 : List S74) : List (Nat × Content) := [(0, .row 74 3 v4.length (fun j => e74 (v4.getD j z74)) true)]
def laws_markJobS.l0 : Nat → List S74 → Int → Int → Option (Int × List S74)
  | 0, _, _, _ => none
  | kq + 1, v4, v5, v6 => if v6 < (v4.length : Int) then (if 0 ≤ v6 then (laws_markJobS.l0 kq  (v4.set v6.toNat (⟨v5, (w64 (v5 + 1)), (decide (((w64 ((w64 (v5 + 1)) + 1)).tmod 3) = 0))⟩ : S74)) (w64 ((w64 ((w64 (v5 + 1)) + 1)) + 1)) (w64 (v6 + 1))) else none) else (some (v5, v4))
def laws_markJobS.f (k : Nat) (a0 : List S74) (a1 : Int) : Option (Int × List S74) := laws_markJobS.l0 k  a0 a1 0
theorem laws_markJobS.go : Callable prog 50 := ⟨_, func50, by kernel_rfl, rfl⟩
def laws_markJobS.cin (a0 : List S74) : List (Nat × Content) := [(0, .row 74 3 a0.length (fun j => e74 (a0.getD j z74)) true)]
def laws_markJobS.cout (r : Int × List S74) : List (Nat × Content) := [(0, .row 74 3 r.2.length (fun j => e74 (r.2.getD j z74)) true)]
theorem laws_markJobS.flat (r : Int × List S74) : ∀ p ∈ laws_markJobS.cout r, flatP p.2 := (flatP_cons (SC.of (e := e74) (d := z74) r.2 (by intro x; rfl)) flatP_nil)
theorem laws_markJobS.okW (k : Nat) (a0 : List S74) (a1 : Int) (r : Int × List S74) (h : laws_markJobS.f k a0 a1 = some r) : WOk prog 50 [.t (.c (.h 0)), .t (.c (.p false (iI a1)))] (laws_markJobS.cin a0) (laws_markJobS.cout r) (.int .i64 r.1) := by
  unfold laws_markJobS.f at h
  refine WOk.of (fn := f50) (N := 36) func50 rfl rfl rfl rfl rfl (laws_markJobS.flat r) (fun w0 xw hB hQ => ?_)
  have H0 : ∀ (kq : Nat) (v4 : List S74) (v5 : Int) (v6 : Int), laws_markJobS.l0 kq  v4 v5 v6 = some r → AG prog 50 36 [.c (.p (iI r.1))] w0 (headStk (codeOf f50) 0) (mkFS (laws_markJobS.h0T xw v5 v6 v4) (laws_markJobS.h0H xw v5 v6 v4)) := by
    intro kq
    induction kq with
    | zero => intro v4 v5 v6 h; cases h
    | succ kq ih =>
      intro v4 v5 v6 h
      rw [laws_markJobS.l0] at h
      by_cases c5 : v6 < (v4.length : Int)
      · replace h := ip c5 h
        obtain ⟨c6, h⟩ := ifN h
        exact hd func50 [.b true, .aft 999999, orow 0 e74 z74 (v4.set v6.toNat (⟨v5, (rdD z74 v4 v6).f1, (rdD z74 v4 v6).f2⟩ : S74)), .aft 999999, orow 0 e74 z74 (v4.set v6.toNat (⟨v5, (w64 (v5 + 1)), (rdD z74 v4 v6).f2⟩ : S74)), .aft 999999, orow 0 e74 z74 (v4.set v6.toNat (⟨v5, (w64 (v5 + 1)), (decide (((w64 ((w64 (v5 + 1)) + 1)).tmod 3) = 0))⟩ : S74)), .fin] (oT c5 (o1 c6 (o1 c5 (o1 (GE.set (e := e74) (d := z74) v4 v6.toNat (⟨v5, (rdD z74 v4 v6).f1, (rdD z74 v4 v6).f2⟩ : S74) (lt_toNat c6 c5) rfl) (o1 c6 (o1 (lt_set (k := v6.toNat) (v := (⟨v5, (rdD z74 v4 v6).f1, (rdD z74 v4 v6).f2⟩ : S74)) c5) (o1 (GE.set2 (e := e74) (d := z74) v4 v6.toNat (⟨v5, (rdD z74 v4 v6).f1, (rdD z74 v4 v6).f2⟩ : S74) (⟨v5, (w64 (v5 + 1)), (rdD z74 v4 v6).f2⟩ : S74) (lt_toNat c6 c5) (f := fun u => splice u 1 [.sc (.int .i64 (w64 (v5 + 1)))]) rfl) (o1 (by decide : (3 : Int) ≠ 0) (o1 c6 (o1 (lt_set (k := v6.toNat) (v := (⟨v5, (w64 (v5 + 1)), (rdD z74 v4 v6).f2⟩ : S74)) c5) (o1 (GE.set2 (e := e74) (d := z74) v4 v6.toNat (⟨v5, (w64 (v5 + 1)), (rdD z74 v4 v6).f2⟩ : S74) (⟨v5, (w64 (v5 + 1)), (decide (((w64 ((w64 (v5 + 1)) + 1)).tmod 3) = 0))⟩ : S74) (lt_toNat c6 c5) (f := fun u => splice u 2 [.sc (.bool (decide (((w64 ((w64 (v5 + 1)) + 1)).tmod 3) = 0)))]) rfl) on))))))))))) (ih (v4.set v6.toNat (⟨v5, (w64 (v5 + 1)), (decide (((w64 ((w64 (v5 + 1)) + 1)).tmod 3) = 0))⟩ : S74)) (w64 ((w64 ((w64 (v5 + 1)) + 1)) + 1)) (w64 (v6 + 1)) h)
      · replace h := iq c5 h
        cases h
        exact byRetW MX func50 hB hQ (laws_markJobS.flat _) (T := [(0, .t (.c (.hv 0 (xw 0))))]) rfl 1000 [.b false, .fin, .fin] (oF c5 on) (by kernel_rfl)
  exact hd func50 [.fin] on (H0 k a0 a1 0 h)
def laws_markJobS.con (k : Nat) (a0 : List S74) (a1 : Int) (r : Int × List S74) (h : laws_markJobS.f k a0 a1 = some r) : WCon prog := ⟨50, [.t (.c (.h 0)), .t (.c (.p false (iI a1)))], laws_markJobS.cin a0, laws_markJobS.cout r, .int .i64 r.1, rfl, laws_markJobS.okW k a0 a1 r h, laws_markJobS.go⟩

/-! ### laws_markYard: function 13 -/
def laws_markYard.f (k : Nat) (a0 : S48) (a1 : Int) : Option (Int × List S69 × List Int × List S72 × List S74 × List Int) := (laws_markRobotS.f k a0.f1 a1).bind fun t1 => (laws_markWindow.f k a0.f2 t1.1).bind fun t2 => (laws_markPlan.f k a0.f5 t2.1).bind fun t3 => (laws_markJobS.f k a0.f6 t3.1).bind fun t4 => (laws_markIntS.f k a0.f7 t4.1).bind fun t5 => some (t5.1, t1.2, t2.2, t3.2, t4.2, t5.2)
theorem laws_markYard.go : Callable prog 13 := ⟨_, func13, by kernel_rfl, rfl⟩
def laws_markYard.cin (a0 : S48) : List (Nat × Content) := [(7, .row 69 4 a0.f1.length (fun j => e69 (a0.f1.getD j z69)) true), (10, .row 3 1 a0.f2.f2.length (fun j => (eI .i64) (a0.f2.f2.getD j 0)) true), (15, NC 72 3 S72.f0 (Value.int .i64) z72 0 a0.f5.f2), (16, .row 74 3 a0.f6.length (fun j => e74 (a0.f6.getD j z74)) true), (17, .row 3 1 a0.f7.length (fun j => (eI .i64) (a0.f7.getD j 0)) true)]
def laws_markYard.cout (r : Int × List S69 × List Int × List S72 × List S74 × List Int) : List (Nat × Content) := [(7, .row 69 4 r.2.1.length (fun j => e69 (r.2.1.getD j z69)) true), (10, .row 3 1 r.2.2.1.length (fun j => (eI .i64) (r.2.2.1.getD j 0)) true), (15, NC 72 3 S72.f0 (Value.int .i64) z72 0 r.2.2.2.1), (16, .row 74 3 r.2.2.2.2.1.length (fun j => e74 (r.2.2.2.2.1.getD j z74)) true), (17, .row 3 1 r.2.2.2.2.2.length (fun j => (eI .i64) (r.2.2.2.2.2.getD j 0)) true)]
theorem laws_markYard.flat (r : Int × List S69 × List Int × List S72 × List S74 × List Int) : ∀ p ∈ laws_markYard.cout r, flatP p.2 := (flatP_cons (SC.of (e := e69) (d := z69) r.2.1 (by intro x; rfl)) (flatP_cons (SC.of (e := (eI .i64)) (d := 0) r.2.2.1 (by intro x; rfl)) (flatP_cons trivial (flatP_cons (SC.of (e := e74) (d := z74) r.2.2.2.2.1 (by intro x; rfl)) (flatP_cons (SC.of (e := (eI .i64)) (d := 0) r.2.2.2.2.2 (by intro x; rfl)) flatP_nil)))))
theorem laws_markYard.okW (k : Nat) (a0 : S48) (a1 : Int) (r : Int × List S69 × List Int × List S72 × List S74 × List Int) (h : laws_markYard.f k a0 a1 = some r) : WOk prog 13 [.t (.agg [.p false (iI a0.f0.f0.f0), .p false (iI a0.f0.f0.f1), .p false (.sc (.string a0.f0.f0.f2)), .p false (iI a0.f0.f1), .p false (iI a0.f0.f2), .p false (iI a0.f0.f3), .p false (iI a0.f0.f4), .h 7, .p false (iI a0.f2.f0), .p false (iI a0.f2.f1), .h 10, .p false (iI a0.f3), .p false (.sc (.bool a0.f4)), .p false (iI a0.f5.f0), .p false (iI a0.f5.f1), .hn 15, .h 16, .h 17]), .t (.c (.p false (iI a1)))] (laws_markYard.cin a0) (laws_markYard.cout r) (.int .i64 r.1) := by
  unfold laws_markYard.f at h
  refine WOk.of (fn := f13) (N := 26) func13 rfl rfl rfl rfl rfl (laws_markYard.flat r) (fun w0 xw hB hQ => ?_)
  obtain ⟨t1, g1, h⟩ := bindN h
  let C1 := laws_markRobotS.con k a0.f1 a1 t1 g1
  obtain ⟨t2, g2, h⟩ := bindN h
  let C2 := laws_markWindow.con k a0.f2 t1.1 t2 g2
  obtain ⟨t3, g3, h⟩ := bindN h
  let C3 := laws_markPlan.con k a0.f5 t2.1 t3 g3
  obtain ⟨t4, g4, h⟩ := bindN h
  let C4 := laws_markJobS.con k a0.f6 t3.1 t4 g4
  obtain ⟨t5, g5, h⟩ := bindN h
  let C5 := laws_markIntS.con k a0.f7 t4.1 t5 g5
  cases h
  exact byRetW MX func13 hB hQ (laws_markYard.flat _) (T := [(0, .t (.agg [.p false (iI a0.f0.f0.f0), .p false (iI a0.f0.f0.f1), .p false (.sc (.string a0.f0.f0.f2)), .p false (iI a0.f0.f1), .p false (iI a0.f0.f2), .p false (iI a0.f0.f3), .p false (iI a0.f0.f4), .hv 7 (xw 7), .p false (iI a0.f2.f0), .p false (iI a0.f2.f1), .hv 10 (xw 10), .p false (iI a0.f3), .p false (.sc (.bool a0.f4)), .p false (iI a0.f5.f0), .p false (iI a0.f5.f1), .hv 15 (xw 15), .hv 16 (xw 16), .hv 17 (xw 17)]))]) rfl 1000 [.callW C1 [(0, 7)], .callW C2 [(2, 10)], .callW C3 [(2, 15)], .callW C4 [(0, 16)], .callW C5 [(0, 17)], .fin] (oa (scw_ C1) (oa (scw_ C2) (oa (scw_ C3) (oa (scw_ C4) (oa (scw_ C5) on))))) (by kernel_rfl)
def laws_markYard.con (k : Nat) (a0 : S48) (a1 : Int) (r : Int × List S69 × List Int × List S72 × List S74 × List Int) (h : laws_markYard.f k a0 a1 = some r) : WCon prog := ⟨13, [.t (.agg [.p false (iI a0.f0.f0.f0), .p false (iI a0.f0.f0.f1), .p false (.sc (.string a0.f0.f0.f2)), .p false (iI a0.f0.f1), .p false (iI a0.f0.f2), .p false (iI a0.f0.f3), .p false (iI a0.f0.f4), .h 7, .p false (iI a0.f2.f0), .p false (iI a0.f2.f1), .h 10, .p false (iI a0.f3), .p false (.sc (.bool a0.f4)), .p false (iI a0.f5.f0), .p false (iI a0.f5.f1), .hn 15, .h 16, .h 17]), .t (.c (.p false (iI a1)))], laws_markYard.cin a0, laws_markYard.cout r, .int .i64 r.1, rfl, laws_markYard.okW k a0 a1 r h, laws_markYard.go⟩

/-! ### laws_heldRobotS: function 62 -/
def laws_heldRobotS.h0T (a0 : List S69) (v2 : Int) (v3 : Int) : List (Nat × AV) := [(0, .t (.c (.p false (R 4 e69 z69 a0)))), (1, .t (.c (.p false (iI v2)))), (5, .t (.c (.p true (iI v3))))]
def laws_heldRobotS.h0H (a0 : List S69) (v2 : Int) (v3 : Int) : List (Nat × Content) := []
def laws_heldRobotS.l0 : Nat → List S69 → Int → Int → Option Int
  | 0, _, _, _ => none
  | kq + 1, a0, v2, v3 => if v3 < (a0.length : Int) then (if 0 ≤ v3 then (if (rdD z69 a0 v3).f0 = v2 then (if (rdD z69 a0 v3).f1 = (w64 (v2 + 1)) then (if (rdD z69 a0 v3).f2 = (w64 ((w64 (v2 + 1)) + 1)) then (if ((rdD z69 a0 v3).f3 == (decide (((w64 ((w64 ((w64 (v2 + 1)) + 1)) + 1)).tmod 3) = 0))) = true then (laws_heldRobotS.l0 kq a0 (w64 ((w64 ((w64 ((w64 (v2 + 1)) + 1)) + 1)) + 1)) (w64 (v3 + 1))) else (some (-1))) else (some (-1))) else (some (-1))) else (some (-1))) else none) else (some v2)
def laws_heldRobotS.f (k : Nat) (a0 : List S69) (a1 : Int) : Option Int := laws_heldRobotS.l0 k a0 a1 0
theorem laws_heldRobotS.go : Callable prog 62 := ⟨_, func62, by kernel_rfl, rfl⟩
theorem laws_heldRobotS.ok (k : Nat) (a0 : List S69) (a1 : Int) (r : Int) (h : laws_heldRobotS.f k a0 a1 = some r) : VCalls prog 62 [.c (R 4 e69 z69 a0), .c (iI a1)] [.c (.p (iI r))] := by
  unfold laws_heldRobotS.f at h
  refine VCalls.of (fn := f62) (N := 51) func62 rfl rfl (fun w0 => ?_)
  have H0 : ∀ (kq : Nat) (v2 : Int) (v3 : Int), laws_heldRobotS.l0 kq a0 v2 v3 = some r → AG prog 62 51 [.c (.p (iI r))] w0 (headStk (codeOf f62) 0) (mkFS (laws_heldRobotS.h0T a0 v2 v3) (laws_heldRobotS.h0H a0 v2 v3)) := by
    intro kq
    induction kq with
    | zero => intro v2 v3 h; cases h
    | succ kq ih =>
      intro v2 v3 h
      rw [laws_heldRobotS.l0] at h
      by_cases c11 : v3 < (a0.length : Int)
      · replace h := ip c11 h
        obtain ⟨c12, h⟩ := ifN h
        by_cases c13 : (rdD z69 a0 v3).f0 = v2
        · replace h := ip c13 h
          by_cases c14 : (rdD z69 a0 v3).f1 = (w64 (v2 + 1))
          · replace h := ip c14 h
            by_cases c15 : (rdD z69 a0 v3).f2 = (w64 ((w64 (v2 + 1)) + 1))
            · replace h := ip c15 h
              by_cases c16 : ((rdD z69 a0 v3).f3 == (decide (((w64 ((w64 ((w64 (v2 + 1)) + 1)) + 1)).tmod 3) = 0))) = true
              · replace h := ip c16 h
                exact hd func62 [.b true, .b false, .b false, .b false, .b false, .fin] (oT c11 (o1 c12 (o1 c11 (o1 (bnf (decide_eq_true c13)) (o1 c12 (o1 c11 (o1 (bnf (decide_eq_true c14)) (o1 c12 (o1 c11 (o1 (bnf (decide_eq_true c15)) (o1 c12 (o1 c11 (o1 (by decide : (3 : Int) ≠ 0) (o1 (bnf c16) on)))))))))))))) (ih (w64 ((w64 ((w64 ((w64 (v2 + 1)) + 1)) + 1)) + 1)) (w64 (v3 + 1)) h)
              · replace h := iq c16 h
                cases h
                exact rt func62 [.b true, .b false, .b false, .b false, .b true, .fin] (oT c11 (o1 c12 (o1 c11 (o1 (bnf (decide_eq_true c13)) (o1 c12 (o1 c11 (o1 (bnf (decide_eq_true c14)) (o1 c12 (o1 c11 (o1 (bnf (decide_eq_true c15)) (o1 c12 (o1 c11 (o1 (by decide : (3 : Int) ≠ 0) (oN c16 on))))))))))))))
            · replace h := iq c15 h
              cases h
              exact rt func62 [.b true, .b false, .b false, .b true, .fin] (oT c11 (o1 c12 (o1 c11 (o1 (bnf (decide_eq_true c13)) (o1 c12 (o1 c11 (o1 (bnf (decide_eq_true c14)) (o1 c12 (o1 c11 (o1 (bnt (decide_eq_false c15)) on))))))))))
          · replace h := iq c14 h
            cases h
            exact rt func62 [.b true, .b false, .b true, .fin] (oT c11 (o1 c12 (o1 c11 (o1 (bnf (decide_eq_true c13)) (o1 c12 (o1 c11 (o1 (bnt (decide_eq_false c14)) on)))))))
        · replace h := iq c13 h
          cases h
          exact rt func62 [.b true, .b true, .fin] (oT c11 (o1 c12 (o1 c11 (o1 (bnt (decide_eq_false c13)) on))))
      · replace h := iq c11 h
        cases h
        exact rt func62 [.b false, .fin, .fin] (oF c11 on)
  exact hd func62 [.fin] on (H0 k a1 0 h)

/-! ### laws_heldIntS: function 15 -/
def laws_heldIntS.h0T (a0 : List Int) (v2 : Int) (v3 : Int) : List (Nat × AV) := [(0, .t (.c (.p false (R 1 (eI .i64) 0 a0)))), (1, .t (.c (.p false (iI v2)))), (5, .t (.c (.p true (iI v3))))]
def laws_heldIntS.h0H (a0 : List Int) (v2 : Int) (v3 : Int) : List (Nat × Content) := []
def laws_heldIntS.l0 : Nat → List Int → Int → Int → Option Int
  | 0, _, _, _ => none
  | kq + 1, a0, v2, v3 => if v3 < (a0.length : Int) then (if 0 ≤ v3 then (if (rdD 0 a0 v3) = v2 then (laws_heldIntS.l0 kq a0 (w64 (v2 + 1)) (w64 (v3 + 1))) else (some (-1))) else none) else (some v2)
def laws_heldIntS.f (k : Nat) (a0 : List Int) (a1 : Int) : Option Int := laws_heldIntS.l0 k a0 a1 0
theorem laws_heldIntS.go : Callable prog 15 := ⟨_, func15, by kernel_rfl, rfl⟩
theorem laws_heldIntS.ok (k : Nat) (a0 : List Int) (a1 : Int) (r : Int) (h : laws_heldIntS.f k a0 a1 = some r) : VCalls prog 15 [.c (R 1 (eI .i64) 0 a0), .c (iI a1)] [.c (.p (iI r))] := by
  unfold laws_heldIntS.f at h
  refine VCalls.of (fn := f15) (N := 21) func15 rfl rfl (fun w0 => ?_)
  have H0 : ∀ (kq : Nat) (v2 : Int) (v3 : Int), laws_heldIntS.l0 kq a0 v2 v3 = some r → AG prog 15 21 [.c (.p (iI r))] w0 (headStk (codeOf f15) 0) (mkFS (laws_heldIntS.h0T a0 v2 v3) (laws_heldIntS.h0H a0 v2 v3)) := by
    intro kq
    induction kq with
    | zero => intro v2 v3 h; cases h
    | succ kq ih =>
      intro v2 v3 h
      rw [laws_heldIntS.l0] at h
      by_cases c5 : v3 < (a0.length : Int)
      · replace h := ip c5 h
        obtain ⟨c6, h⟩ := ifN h
        by_cases c7 : (rdD 0 a0 v3) = v2
        · replace h := ip c7 h
          exact hd func15 [.b true, .b false, .fin] (oT c5 (o1 c6 (o1 c5 (o1 (bnf (decide_eq_true c7)) on)))) (ih (w64 (v2 + 1)) (w64 (v3 + 1)) h)
        · replace h := iq c7 h
          cases h
          exact rt func15 [.b true, .b true, .fin] (oT c5 (o1 c6 (o1 c5 (o1 (bnt (decide_eq_false c7)) on))))
      · replace h := iq c5 h
        cases h
        exact rt func15 [.b false, .fin, .fin] (oF c5 on)
  exact hd func15 [.fin] on (H0 k a1 0 h)

/-! ### laws_heldWindow: function 63 -/
def laws_heldWindow.f (k : Nat) (a0 : S42) (a1 : Int) : Option Int := (laws_heldIntS.f k a0.f2 a1).bind fun t1 => if t1 < 0 then (some (-1)) else (some t1)
theorem laws_heldWindow.go : Callable prog 63 := ⟨_, func63, by kernel_rfl, rfl⟩
theorem laws_heldWindow.ok (k : Nat) (a0 : S42) (a1 : Int) (r : Int) (h : laws_heldWindow.f k a0 a1 = some r) : VCalls prog 63 [.agg (e42 a0), .c (iI a1)] [.c (.p (iI r))] := by
  unfold laws_heldWindow.f at h
  refine VCalls.of (fn := f63) (N := 12) func63 rfl rfl (fun w0 => ?_)
  obtain ⟨t1, g1, h⟩ := bindN h
  let C1 := mkCon (laws_heldIntS.ok k a0.f2 a1 t1 g1) laws_heldIntS.go
  by_cases c2 : t1 < 0
  · replace h := ip c2 h
    cases h
    exact rt func63 [.call C1, .b true, .fin] (oc C1 (oT c2 on))
  · replace h := iq c2 h
    cases h
    exact rt func63 [.call C1, .b false, .fin] (oc C1 (oF c2 on))

/-! ### laws_heldWayS: function 125 -/
def laws_heldWayS.h0T (a0 : List S72) (v4 : Int) (v5 : Int) : List (Nat × AV) := [(0, .t (.c (.p false (R 1 e72 z72 a0)))), (1, .t (.c (.p false (iI v4)))), (5, .t (.c (.p true (iI v5))))]
def laws_heldWayS.h0H (a0 : List S72) (v4 : Int) (v5 : Int) : List (Nat × Content) := []
def laws_heldWayS.l0 : Nat → List S72 → Int → Int → Option Int
  | 0, _, _, _ => none
  | kq + 1, a0, v4, v5 => if v5 < (a0.length : Int) then (if 0 ≤ v5 then ((laws_heldIntS.f kq ((rdD z72 a0 v5).f0) v4).bind fun t6 => if t6 < 0 then (some (-1)) else (laws_heldWayS.l0 kq a0 t6 (w64 (v5 + 1)))) else none) else (some v4)
def laws_heldWayS.f (k : Nat) (a0 : List S72) (a1 : Int) : Option Int := laws_heldWayS.l0 k a0 a1 0
theorem laws_heldWayS.go : Callable prog 125 := ⟨_, func125, by kernel_rfl, rfl⟩
theorem laws_heldWayS.ok (k : Nat) (a0 : List S72) (a1 : Int) (r : Int) (h : laws_heldWayS.f k a0 a1 = some r) : VCalls prog 125 [.c (R 1 e72 z72 a0), .c (iI a1)] [.c (.p (iI r))] := by
  unfold laws_heldWayS.f at h
  refine VCalls.of (fn := f125) (N := 22) func125 rfl rfl (fun w0 => ?_)
  have H0 : ∀ (kq : Nat) (v4 : Int) (v5 : Int), laws_heldWayS.l0 kq a0 v4 v5 = some r → AG prog 125 22 [.c (.p (iI r))] w0 (headStk (codeOf f125) 0) (mkFS (laws_heldWayS.h0T a0 v4 v5) (laws_heldWayS.h0H a0 v4 v5)) := by
    intro kq
    induction kq with
    | zero => intro v4 v5 h; cases h
    | succ kq ih =>
      intro v4 v5 h
      rw [laws_heldWayS.l0] at h
      by_cases c7 : v5 < (a0.length : Int)
      · replace h := ip c7 h
        obtain ⟨c8, h⟩ := ifN h
        obtain ⟨t6, g9, h⟩ := bindN h
        let C9 := mkCon (laws_heldIntS.ok kq ((rdD z72 a0 v5).f0) v4 t6 g9) laws_heldIntS.go
        by_cases c10 : t6 < 0
        · replace h := ip c10 h
          cases h
          exact rt func125 [.b true, .call C9, .b true, .fin] (oT c7 (o1 c8 (o1 c7 (oc C9 (oT c10 on)))))
        · replace h := iq c10 h
          exact hd func125 [.b true, .call C9, .b false, .fin] (oT c7 (o1 c8 (o1 c7 (oc C9 (oF c10 on))))) (ih t6 (w64 (v5 + 1)) h)
      · replace h := iq c7 h
        cases h
        exact rt func125 [.b false, .fin, .fin] (oF c7 on)
  exact hd func125 [.fin] on (H0 k a1 0 h)

/-! ### laws_heldPlan: function 64 -/
def laws_heldPlan.f (k : Nat) (a0 : S45) (a1 : Int) : Option Int := (laws_heldWayS.f k a0.f2 a1).bind fun t1 => if t1 < 0 then (some (-1)) else (some t1)
theorem laws_heldPlan.go : Callable prog 64 := ⟨_, func64, by kernel_rfl, rfl⟩
theorem laws_heldPlan.ok (k : Nat) (a0 : S45) (a1 : Int) (r : Int) (h : laws_heldPlan.f k a0 a1 = some r) : VCalls prog 64 [.agg (e45 a0), .c (iI a1)] [.c (.p (iI r))] := by
  unfold laws_heldPlan.f at h
  refine VCalls.of (fn := f64) (N := 12) func64 rfl rfl (fun w0 => ?_)
  obtain ⟨t1, g1, h⟩ := bindN h
  let C1 := mkCon (laws_heldWayS.ok k a0.f2 a1 t1 g1) laws_heldWayS.go
  by_cases c2 : t1 < 0
  · replace h := ip c2 h
    cases h
    exact rt func64 [.call C1, .b true, .fin] (oc C1 (oT c2 on))
  · replace h := iq c2 h
    cases h
    exact rt func64 [.call C1, .b false, .fin] (oc C1 (oF c2 on))

/-! ### laws_heldJobS: function 65 -/
def laws_heldJobS.h0T (a0 : List S74) (v2 : Int) (v3 : Int) : List (Nat × AV) := [(0, .t (.c (.p false (R 3 e74 z74 a0)))), (1, .t (.c (.p false (iI v2)))), (5, .t (.c (.p true (iI v3))))]
def laws_heldJobS.h0H (a0 : List S74) (v2 : Int) (v3 : Int) : List (Nat × Content) := []
def laws_heldJobS.l0 : Nat → List S74 → Int → Int → Option Int
  | 0, _, _, _ => none
  | kq + 1, a0, v2, v3 => if v3 < (a0.length : Int) then (if 0 ≤ v3 then (if (rdD z74 a0 v3).f0 = v2 then (if (rdD z74 a0 v3).f1 = (w64 (v2 + 1)) then (if ((rdD z74 a0 v3).f2 == (decide (((w64 ((w64 (v2 + 1)) + 1)).tmod 3) = 0))) = true then (laws_heldJobS.l0 kq a0 (w64 ((w64 ((w64 (v2 + 1)) + 1)) + 1)) (w64 (v3 + 1))) else (some (-1))) else (some (-1))) else (some (-1))) else none) else (some v2)
def laws_heldJobS.f (k : Nat) (a0 : List S74) (a1 : Int) : Option Int := laws_heldJobS.l0 k a0 a1 0
theorem laws_heldJobS.go : Callable prog 65 := ⟨_, func65, by kernel_rfl, rfl⟩
theorem laws_heldJobS.ok (k : Nat) (a0 : List S74) (a1 : Int) (r : Int) (h : laws_heldJobS.f k a0 a1 = some r) : VCalls prog 65 [.c (R 3 e74 z74 a0), .c (iI a1)] [.c (.p (iI r))] := by
  unfold laws_heldJobS.f at h
  refine VCalls.of (fn := f65) (N := 42) func65 rfl rfl (fun w0 => ?_)
  have H0 : ∀ (kq : Nat) (v2 : Int) (v3 : Int), laws_heldJobS.l0 kq a0 v2 v3 = some r → AG prog 65 42 [.c (.p (iI r))] w0 (headStk (codeOf f65) 0) (mkFS (laws_heldJobS.h0T a0 v2 v3) (laws_heldJobS.h0H a0 v2 v3)) := by
    intro kq
    induction kq with
    | zero => intro v2 v3 h; cases h
    | succ kq ih =>
      intro v2 v3 h
      rw [laws_heldJobS.l0] at h
      by_cases c9 : v3 < (a0.length : Int)
      · replace h := ip c9 h
        obtain ⟨c10, h⟩ := ifN h
        by_cases c11 : (rdD z74 a0 v3).f0 = v2
        · replace h := ip c11 h
          by_cases c12 : (rdD z74 a0 v3).f1 = (w64 (v2 + 1))
          · replace h := ip c12 h
            by_cases c13 : ((rdD z74 a0 v3).f2 == (decide (((w64 ((w64 (v2 + 1)) + 1)).tmod 3) = 0))) = true
            · replace h := ip c13 h
              exact hd func65 [.b true, .b false, .b false, .b false, .fin] (oT c9 (o1 c10 (o1 c9 (o1 (bnf (decide_eq_true c11)) (o1 c10 (o1 c9 (o1 (bnf (decide_eq_true c12)) (o1 c10 (o1 c9 (o1 (by decide : (3 : Int) ≠ 0) (o1 (bnf c13) on))))))))))) (ih (w64 ((w64 ((w64 (v2 + 1)) + 1)) + 1)) (w64 (v3 + 1)) h)
            · replace h := iq c13 h
              cases h
              exact rt func65 [.b true, .b false, .b false, .b true, .fin] (oT c9 (o1 c10 (o1 c9 (o1 (bnf (decide_eq_true c11)) (o1 c10 (o1 c9 (o1 (bnf (decide_eq_true c12)) (o1 c10 (o1 c9 (o1 (by decide : (3 : Int) ≠ 0) (oN c13 on)))))))))))
          · replace h := iq c12 h
            cases h
            exact rt func65 [.b true, .b false, .b true, .fin] (oT c9 (o1 c10 (o1 c9 (o1 (bnf (decide_eq_true c11)) (o1 c10 (o1 c9 (o1 (bnt (decide_eq_false c12)) on)))))))
        · replace h := iq c11 h
          cases h
          exact rt func65 [.b true, .b true, .fin] (oT c9 (o1 c10 (o1 c9 (o1 (bnt (decide_eq_false c11)) on))))
      · replace h := iq c9 h
        cases h
        exact rt func65 [.b false, .fin, .fin] (oF c9 on)
  exact hd func65 [.fin] on (H0 k a1 0 h)

/-! ### laws_heldYard: function 23 -/
def laws_heldYard.f (k : Nat) (a0 : S48) (a1 : Int) : Option Int := (laws_heldRobotS.f k a0.f1 a1).bind fun t1 => if t1 < 0 then (some (-1)) else ((laws_heldWindow.f k a0.f2 t1).bind fun t2 => if t2 < 0 then (some (-1)) else ((laws_heldPlan.f k a0.f5 t2).bind fun t3 => if t3 < 0 then (some (-1)) else ((laws_heldJobS.f k a0.f6 t3).bind fun t4 => if t4 < 0 then (some (-1)) else ((laws_heldIntS.f k a0.f7 t4).bind fun t5 => if t5 < 0 then (some (-1)) else (some t5)))))
theorem laws_heldYard.go : Callable prog 23 := ⟨_, func23, by kernel_rfl, rfl⟩
theorem laws_heldYard.ok (k : Nat) (a0 : S48) (a1 : Int) (r : Int) (h : laws_heldYard.f k a0 a1 = some r) : VCalls prog 23 [.agg (e48 a0), .c (iI a1)] [.c (.p (iI r))] := by
  unfold laws_heldYard.f at h
  refine VCalls.of (fn := f23) (N := 36) func23 rfl rfl (fun w0 => ?_)
  obtain ⟨t1, g1, h⟩ := bindN h
  let C1 := mkCon (laws_heldRobotS.ok k a0.f1 a1 t1 g1) laws_heldRobotS.go
  by_cases c2 : t1 < 0
  · replace h := ip c2 h
    cases h
    exact rt func23 [.call C1, .b true, .fin] (oc C1 (oT c2 on))
  · replace h := iq c2 h
    obtain ⟨t2, g3, h⟩ := bindN h
    let C3 := mkCon (laws_heldWindow.ok k a0.f2 t1 t2 g3) laws_heldWindow.go
    by_cases c4 : t2 < 0
    · replace h := ip c4 h
      cases h
      exact rt func23 [.call C1, .b false, .call C3, .b true, .fin] (oc C1 (oF c2 (oc C3 (oT c4 on))))
    · replace h := iq c4 h
      obtain ⟨t3, g5, h⟩ := bindN h
      let C5 := mkCon (laws_heldPlan.ok k a0.f5 t2 t3 g5) laws_heldPlan.go
      by_cases c6 : t3 < 0
      · replace h := ip c6 h
        cases h
        exact rt func23 [.call C1, .b false, .call C3, .b false, .call C5, .b true, .fin] (oc C1 (oF c2 (oc C3 (oF c4 (oc C5 (oT c6 on))))))
      · replace h := iq c6 h
        obtain ⟨t4, g7, h⟩ := bindN h
        let C7 := mkCon (laws_heldJobS.ok k a0.f6 t3 t4 g7) laws_heldJobS.go
        by_cases c8 : t4 < 0
        · replace h := ip c8 h
          cases h
          exact rt func23 [.call C1, .b false, .call C3, .b false, .call C5, .b false, .call C7, .b true, .fin] (oc C1 (oF c2 (oc C3 (oF c4 (oc C5 (oF c6 (oc C7 (oT c8 on))))))))
        · replace h := iq c8 h
          obtain ⟨t5, g9, h⟩ := bindN h
          let C9 := mkCon (laws_heldIntS.ok k a0.f7 t4 t5 g9) laws_heldIntS.go
          by_cases c10 : t5 < 0
          · replace h := ip c10 h
            cases h
            exact rt func23 [.call C1, .b false, .call C3, .b false, .call C5, .b false, .call C7, .b false, .call C9, .b true, .fin] (oc C1 (oF c2 (oc C3 (oF c4 (oc C5 (oF c6 (oc C7 (oF c8 (oc C9 (oT c10 on))))))))))
          · replace h := iq c10 h
            cases h
            exact rt func23 [.call C1, .b false, .call C3, .b false, .call C5, .b false, .call C7, .b false, .call C9, .b false, .fin] (oc C1 (oF c2 (oc C3 (oF c4 (oc C5 (oF c6 (oc C7 (oF c8 (oc C9 (oF c10 on))))))))))
end Go.Proofs.YtoaknaceaghclaaGreat.V
