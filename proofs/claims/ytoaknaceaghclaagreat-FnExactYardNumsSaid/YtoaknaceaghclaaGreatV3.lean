/- What each Go function computes, and that the machine does so: printed by a program of this session (avgen.py). -/
import Derived.Test.YtoaknaceaghclaaGreatV2
namespace Go.Proofs.YtoaknaceaghclaaGreat.V
open Go Go.Av Go.Proofs Go.Proofs.Tryz
set_option linter.unusedVariables false
set_option maxRecDepth 100000
/-! ### slices_Index_int_int: function 183 -/
def slices_Index_int_int.h0T (a0 : List Int) (a1 : Int) (v1 : Int) : List (Nat × AV) := [(0, .t (.c (.p false (R 1 (eI .i64) 0 a0)))), (1, .t (.c (.p false (iI a1)))), (7, .t (.c (.p true (.sc (.int .i64 (a0.length : Int)))))), (8, .t (.c (.p true (iI v1))))]
def slices_Index_int_int.h0H (a0 : List Int) (a1 : Int) (v1 : Int) : List (Nat × Content) := []
def slices_Index_int_int.l0 : Nat → List Int → Int → Int → Option Int
  | 0, _, _, _ => none
  | kq + 1, a0, a1, v1 => if v1 < (a0.length : Int) then (if 0 ≤ v1 then (if a1 = (rdD 0 a0 v1) then (some v1) else (slices_Index_int_int.l0 kq a0 a1 (w64 (v1 + 1)))) else none) else (some (-1))
def slices_Index_int_int.f (k : Nat) (a0 : List Int) (a1 : Int) : Option Int := slices_Index_int_int.l0 k a0 a1 0
theorem slices_Index_int_int.go : Callable prog 183 := ⟨_, func183, by kernel_rfl, rfl⟩
theorem slices_Index_int_int.ok (k : Nat) (a0 : List Int) (a1 : Int) (r : Int) (h : slices_Index_int_int.f k a0 a1 = some r) : VCalls prog 183 [.c (R 1 (eI .i64) 0 a0), .c (iI a1)] [.c (.p (iI r))] := by
  unfold slices_Index_int_int.f at h
  refine VCalls.of (fn := f183) (N := 19) func183 rfl rfl (fun w0 => ?_)
  have H0 : ∀ (kq : Nat) (v1 : Int), slices_Index_int_int.l0 kq a0 a1 v1 = some r → AG prog 183 19 [.c (.p (iI r))] w0 (headStk (codeOf f183) 0) (mkFS (slices_Index_int_int.h0T a0 a1 v1) (slices_Index_int_int.h0H a0 a1 v1)) := by
    intro kq
    induction kq with
    | zero => intro v1 h; cases h
    | succ kq ih =>
      intro v1 h
      rw [slices_Index_int_int.l0] at h
      by_cases c3 : v1 < (a0.length : Int)
      · replace h := ip c3 h
        obtain ⟨c4, h⟩ := ifN h
        by_cases c5 : a1 = (rdD 0 a0 v1)
        · replace h := ip c5 h
          cases h
          exact rt func183 [.b true, .b true, .fin] (oT c3 (o1 c4 (o1 c3 (oT c5 on))))
        · replace h := iq c5 h
          exact hd func183 [.b true, .b false, .fin] (oT c3 (o1 c4 (o1 c3 (oF c5 on)))) (ih (w64 (v1 + 1)) h)
      · replace h := iq c3 h
        cases h
        exact rt func183 [.b false, .fin, .fin] (oF c3 on)
  exact hd func183 [.fin] on (H0 k 0 h)

/-! ### slices_Contains_int_int: function 105 -/
def slices_Contains_int_int.f (k : Nat) (a0 : List Int) (a1 : Int) : Option Bool := (slices_Index_int_int.f k a0 a1).bind fun t1 => some (decide (0 ≤ t1))
theorem slices_Contains_int_int.go : Callable prog 105 := ⟨_, func105, by kernel_rfl, rfl⟩
theorem slices_Contains_int_int.ok (k : Nat) (a0 : List Int) (a1 : Int) (r : Bool) (h : slices_Contains_int_int.f k a0 a1 = some r) : VCalls prog 105 [.c (R 1 (eI .i64) 0 a0), .c (iI a1)] [.c (.p (.sc (.bool r)))] := by
  unfold slices_Contains_int_int.f at h
  refine VCalls.of (fn := f105) (N := 9) func105 rfl rfl (fun w0 => ?_)
  obtain ⟨t1, g1, h⟩ := bindN h
  let C1 := mkCon (slices_Index_int_int.ok k a0 a1 t1 g1) slices_Index_int_int.go
  cases h
  exact rt func105 [.call C1, .fin] (oc C1 on)

/-! ### impl_Beside: function 160 -/
def impl_Beside.f (k : Nat) (a0 : S38) (a1 : Int) (a2 : Int) : Option Bool := (impl_Around.f k a0 a1).bind fun t1 => (slices_Contains_int_int.f k t1 a2).bind fun t2 => some t2
theorem impl_Beside.go : Callable prog 160 := ⟨_, func160, by kernel_rfl, rfl⟩
theorem impl_Beside.ok (k : Nat) (a0 : S38) (a1 : Int) (a2 : Int) (r : Bool) (h : impl_Beside.f k a0 a1 a2 = some r) : VCalls prog 160 [.agg (e38 a0), .c (iI a1), .c (iI a2)] [.c (.p (.sc (.bool r)))] := by
  unfold impl_Beside.f at h
  refine VCalls.of (fn := f160) (N := 12) func160 rfl rfl (fun w0 => ?_)
  obtain ⟨t1, g1, h⟩ := bindN h
  let C1 := mkCon (impl_Around.ok k a0 a1 t1 g1) impl_Around.go
  obtain ⟨t2, g2, h⟩ := bindN h
  let C2 := mkCon (slices_Contains_int_int.ok k t1 a2 t2 g2) slices_Contains_int_int.go
  cases h
  exact rt func160 [.call C1, .call C2, .fin] (oc C1 (oc C2 on))

/-! ### impl_heldBy: function 103 -/
def impl_heldBy.f (a0 : S69) : Option (List Int) := if a0.f2 < 0 then (some ([a0.f1])) else (some ([a0.f1, a0.f2]))
theorem impl_heldBy.go : Callable prog 103 := ⟨_, func103, by kernel_rfl, rfl⟩
theorem impl_heldBy.ok (a0 : S69) (r : (List Int)) (h : impl_heldBy.f a0 = some r) : VCalls prog 103 [.agg (e69 a0)] [.c (.own 3 1 r.length (fun j => (eI .i64) (r.getD j 0)))] := by
  unfold impl_heldBy.f at h
  refine VCalls.of (fn := f103) (N := 14) func103 rfl rfl (fun w0 => ?_)
  by_cases c1 : a0.f2 < 0
  · replace h := ip c1 h
    cases h
    exact rt func103 [.b true, rowe 8 (eI .i64) 0 ([a0.f1]), .fin] (oT c1 (o1 (GE.lit 1 (eI .i64) 0 [a0.f1] (by intro x; rfl)) on))
  · replace h := iq c1 h
    cases h
    exact rt func103 [.b false, rowe 13 (eI .i64) 0 ([a0.f1, a0.f2]), .fin] (oF c1 (o1 (GE.lit 1 (eI .i64) 0 [a0.f1, a0.f2] (by intro x; rfl)) on))

/-! ### impl_areApart: function 161 -/
def impl_areApart.h1T (a0 : List S69) (v48 : Int) (t49 : List Int) (v61 : Int) (v59 : Nat) (v60 : List Int) : List (Nat × AV) := [(3, .t (.c (.h 512))), (5, .ptr 320 0), (9, .t (.c (.p false (R 4 e69 z69 a0)))), (10, .t (.c (.p true (.sc (.int .i64 (a0.length : Int)))))), (11, .t (.c (.p true (iI v48)))), (16, .t (.c (.h 1024))), (17, .t (.c (.p true (.sc (.int .i64 (t49.length : Int)))))), (18, .t (.c (.p true (iI v61))))]
noncomputable def impl_areApart.h1H (a0 : List S69) (v48 : Int) (t49 : List Int) (v61 : Int) (v59 : Nat) (v60 : List Int) : List (Nat × Content) := [(320, .box 69 [.p false (.sc (.int .i64 ((rdD z69 a0 v48).f0))), .p false (.sc (.int .i64 ((rdD z69 a0 v48).f1))), .p false (.sc (.int .i64 ((rdD z69 a0 v48).f2))), .p false (.sc (.bool ((rdD z69 a0 v48).f3)))]), (512, .set prog 3 4 v59 v60), (1024, .row 3 1 t49.length (fun j => (eI .i64) (t49.getD j 0)) true)]
def impl_areApart.x1T (a0 : List S69) (v48 : Int) (y62 : Nat × (List Int)) : List (Nat × AV) := [(3, .t (.c (.h 512))), (9, .t (.c (.p false (R 4 e69 z69 a0)))), (10, .t (.c (.p true (.sc (.int .i64 (a0.length : Int)))))), (11, .t (.c (.p true (iI v48))))]
noncomputable def impl_areApart.x1H (a0 : List S69) (v48 : Int) (y62 : Nat × (List Int)) : List (Nat × Content) := [(512, .set prog 3 4 y62.1 y62.2)]
def impl_areApart.l1 : Nat → List Int → List S69 → Int → Nat → List Int → Int → Option (Bool ⊕ (Nat × (List Int)))
  | 0, _, _, _, _, _, _ => none
  | kq + 1, t49, a0, v48, v59, v60, v61 => if v61 < (t49.length : Int) then (if 0 ≤ v61 then (if v61 = 1 then (if (rdD 0 t49 v61) = (rdD z69 a0 v48).f1 then (impl_areApart.l1 kq t49 a0 v48 v59 v60 (w64 (v61 + 1))) else (if (Lit.int .i64 (rdD 0 t49 v61)).wf = true then (if (List.contains v60 (rdD 0 t49 v61)) = true then (some (.inl false)) else (if v59 < maxLen then (impl_areApart.l1 kq t49 a0 v48 (v59 + 1) ((rdD 0 t49 v61) :: v60) (w64 (v61 + 1))) else none)) else none)) else (if (Lit.int .i64 (rdD 0 t49 v61)).wf = true then (if (List.contains v60 (rdD 0 t49 v61)) = true then (some (.inl false)) else (if v59 < maxLen then (impl_areApart.l1 kq t49 a0 v48 (v59 + 1) ((rdD 0 t49 v61) :: v60) (w64 (v61 + 1))) else none)) else none)) else none) else (some (.inr (v59, v60)))
def impl_areApart.h0T (a0 : List S69) (v48 : Int) (v46 : Nat) (v47 : List Int) : List (Nat × AV) := [(3, .t (.c (.h 512))), (9, .t (.c (.p false (R 4 e69 z69 a0)))), (10, .t (.c (.p true (.sc (.int .i64 (a0.length : Int)))))), (11, .t (.c (.p true (iI v48))))]
noncomputable def impl_areApart.h0H (a0 : List S69) (v48 : Int) (v46 : Nat) (v47 : List Int) : List (Nat × Content) := [(512, .set prog 3 4 v46 v47)]
def impl_areApart.l0 : Nat → List S69 → Nat → List Int → Int → Option Bool
  | 0, _, _, _, _ => none
  | kq + 1, a0, v46, v47, v48 => if v48 < (a0.length : Int) then (if 0 ≤ v48 then ((impl_heldBy.f (rdD z69 a0 v48)).bind fun t49 => (impl_areApart.l1 kq t49 a0 v48 v46 v47 0).bind fun x200 => match x200 with | .inl r => some r | .inr y62 => (impl_areApart.l0 kq a0 y62.1 y62.2 (w64 (v48 + 1)))) else none) else (some true)
def impl_areApart.f (k : Nat) (a0 : List S69) : Option Bool := impl_areApart.l0 k a0 0 ([] : List Int) 0
theorem impl_areApart.go : Callable prog 161 := ⟨_, func161, by kernel_rfl, rfl⟩
theorem impl_areApart.ok (k : Nat) (a0 : List S69) (r : Bool) (h : impl_areApart.f k a0 = some r) : VCalls prog 161 [.c (R 4 e69 z69 a0)] [.c (.p (.sc (.bool r)))] := by
  unfold impl_areApart.f at h
  refine VCalls.of (fn := f161) (N := 38) func161 rfl rfl (fun w0 => ?_)
  have H0 : ∀ (kq : Nat) (v46 : Nat) (v47 : List Int) (v48 : Int), impl_areApart.l0 kq a0 v46 v47 v48 = some r → AG prog 161 38 [.c (.p (.sc (.bool r)))] w0 (headStk (codeOf f161) 0) (mkFS (impl_areApart.h0T a0 v48 v46 v47) (impl_areApart.h0H a0 v48 v46 v47)) := by
    intro kq
    induction kq with
    | zero => intro v46 v47 v48 h; cases h
    | succ kq ih =>
      intro v46 v47 v48 h
      rw [impl_areApart.l0] at h
      by_cases c150 : v48 < (a0.length : Int)
      · replace h := ip c150 h
        obtain ⟨c151, h⟩ := ifN h
        obtain ⟨t49, g152, h⟩ := bindN h
        let C152 := mkCon (impl_heldBy.ok (rdD z69 a0 v48) t49 g152) impl_heldBy.go
        have H1 : ∀ (kq : Nat) (v59 : Nat) (v60 : List Int) (v61 : Int) (x : (Bool ⊕ (Nat × (List Int)))), impl_areApart.l1 kq t49 a0 v48 v59 v60 v61 = some x → (match x with | .inl r' => r' = r | .inr y62 => AG prog 161 38 [.c (.p (.sc (.bool r)))] w0 (exitStk (codeOf f161) 1) (mkFS (impl_areApart.x1T a0 v48 y62) (impl_areApart.x1H a0 v48 y62))) → AG prog 161 38 [.c (.p (.sc (.bool r)))] w0 (headStk (codeOf f161) 1) (mkFS (impl_areApart.h1T a0 v48 t49 v61 v59 v60) (impl_areApart.h1H a0 v48 t49 v61 v59 v60)) := by
          intro kq
          induction kq with
          | zero => intro v59 v60 v61 x h hx; cases h
          | succ kq ih =>
            intro v59 v60 v61 x h hx
            rw [impl_areApart.l1] at h
            by_cases c190 : v61 < (t49.length : Int)
            · replace h := ip c190 h
              obtain ⟨c191, h⟩ := ifN h
              by_cases c192 : v61 = 1
              · replace h := ip c192 h
                by_cases c193 : (rdD 0 t49 v61) = (rdD z69 a0 v48).f1
                · replace h := ip c193 h
                  exact hd func161 [.b true, .dec 25 true, .b true, .fin, .fin] (oT c190 (o1 c191 (o1 c190 (oT c192 (oT c193 on))))) (ih v59 v60 (w64 (v61 + 1)) _ h hx)
                · replace h := iq c193 h
                  obtain ⟨c194, h⟩ := ifN h
                  by_cases c195 : (List.contains v60 (rdD 0 t49 v61)) = true
                  · replace h := ip c195 h
                    cases h
                    subst hx
                    exact rt func161 [.b true, .dec 25 true, .b false, .b true, .fin] (oT c190 (o1 c191 (o1 c190 (oT c192 (oF c193 (o1 (rfl : prog = prog) (o1 c194 (o1 c195 on))))))))
                  · replace h := iq c195 h
                    obtain ⟨c196, h⟩ := ifN h
                    exact hd func161 [.b true, .dec 25 true, .b false, .b false, .fin] (oT c190 (o1 c191 (o1 c190 (oT c192 (oF c193 (o1 (rfl : prog = prog) (o1 c194 (o1 (eqf c195) (o1 (rfl : prog = prog) (o1 c196 (o1 c194 on))))))))))) (ih (v59 + 1) ((rdD 0 t49 v61) :: v60) (w64 (v61 + 1)) _ h hx)
              · replace h := iq c192 h
                obtain ⟨c197, h⟩ := ifN h
                by_cases c198 : (List.contains v60 (rdD 0 t49 v61)) = true
                · replace h := ip c198 h
                  cases h
                  subst hx
                  exact rt func161 [.b true, .dec 25 false, .b false, .b true, .fin] (oT c190 (o1 c191 (o1 c190 (oF c192 (o1 (rfl : false = false) (o1 (rfl : prog = prog) (o1 c197 (o1 c198 on))))))))
                · replace h := iq c198 h
                  obtain ⟨c199, h⟩ := ifN h
                  exact hd func161 [.b true, .dec 25 false, .b false, .b false, .fin] (oT c190 (o1 c191 (o1 c190 (oF c192 (o1 (rfl : false = false) (o1 (rfl : prog = prog) (o1 c197 (o1 (eqf c198) (o1 (rfl : prog = prog) (o1 c199 (o1 c197 on))))))))))) (ih (v59 + 1) ((rdD 0 t49 v61) :: v60) (w64 (v61 + 1)) _ h hx)
            · replace h := iq c190 h
              cases h
              exact st func161 [.b false, .fin] (oF c190 on) hx
        obtain ⟨x200, g200, h⟩ := bindN h
        cases x200 with
        | inl r' =>
          exact hd func161 [.b true, .call C152, .fin] (oT c150 (o1 c151 (o1 c150 (oc C152 on)))) (H1 kq v46 v47 0 _ g200 (Option.some.inj h))
        | inr y62 =>
          refine hd func161 [.b true, .call C152, .fin] (oT c150 (o1 c151 (o1 c150 (oc C152 on)))) (H1 kq v46 v47 0 _ g200 ?_)
          show AG prog 161 38 [.c (.p (.sc (.bool r)))] w0 (exitStk (codeOf f161) 1) (mkFS (impl_areApart.x1T a0 v48 y62) (impl_areApart.x1H a0 v48 y62))
          exact hd func161 [.fin] on (ih y62.1 y62.2 (w64 (v48 + 1)) h)
      · replace h := iq c150 h
        cases h
        exact rt func161 [.b false, .fin, .fin] (oF c150 on)
  exact hd func161 [.fin] on (H0 k 0 ([] : List Int) 0 h)

/-! ### impl_RobotsOk: function 91 -/
def impl_RobotsOk.h0T (a1 : List S69) (v3 : Int) (a0 : S38) : List (Nat × AV) := [(1, .t (.c (.p false (R 4 e69 z69 a1)))), (2, .ptr 128 0), (15, .t (.c (.p false (R 4 e69 z69 a1)))), (16, .t (.c (.p true (.sc (.int .i64 (a1.length : Int)))))), (17, .t (.c (.p true (iI v3))))]
def impl_RobotsOk.h0H (a1 : List S69) (v3 : Int) (a0 : S38) : List (Nat × Content) := [(128, .box 38 [.p false (iI a0.f0), .p false (iI a0.f1), .p false (.sc (.string a0.f2))])]
def impl_RobotsOk.l0 : Nat → List S69 → S38 → Int → Option Bool
  | 0, _, _, _ => none
  | kq + 1, a1, a0, v3 => if v3 < (a1.length : Int) then (if 0 ≤ v3 then (if (rdD z69 a1 v3).f0 < 0 then (some false) else (if 99 < (rdD z69 a1 v3).f0 then (some false) else (if 0 < v3 then (if 0 ≤ (w64 (v3 - 1)) then (if (w64 (v3 - 1)) < (a1.length : Int) then (if (rdD z69 a1 v3).f0 ≤ (rdD z69 a1 (w64 (v3 - 1))).f0 then (some false) else ((impl_isFree.f a0 ((rdD z69 a1 v3).f1)).bind fun t4 => if t4 = true then (if (rdD z69 a1 v3).f2 = (-1) then (impl_RobotsOk.l0 kq a1 a0 (w64 (v3 + 1))) else ((impl_Beside.f kq a0 ((rdD z69 a1 v3).f1) ((rdD z69 a1 v3).f2)).bind fun t5 => if t5 = true then (impl_RobotsOk.l0 kq a1 a0 (w64 (v3 + 1))) else (some false))) else (some false))) else none) else none) else ((impl_isFree.f a0 ((rdD z69 a1 v3).f1)).bind fun t6 => if t6 = true then (if (rdD z69 a1 v3).f2 = (-1) then (impl_RobotsOk.l0 kq a1 a0 (w64 (v3 + 1))) else ((impl_Beside.f kq a0 ((rdD z69 a1 v3).f1) ((rdD z69 a1 v3).f2)).bind fun t7 => if t7 = true then (impl_RobotsOk.l0 kq a1 a0 (w64 (v3 + 1))) else (some false))) else (some false))))) else none) else ((impl_areApart.f kq a1).bind fun t8 => some t8)
def impl_RobotsOk.f (k : Nat) (a0 : S38) (a1 : List S69) : Option Bool := (impl_GridOk.f k a0).bind fun t1 => if t1 = true then (if 10 < (a1.length : Int) then (some false) else (impl_RobotsOk.l0 k a1 a0 0)) else (some false)
theorem impl_RobotsOk.go : Callable prog 91 := ⟨_, func91, by kernel_rfl, rfl⟩
theorem impl_RobotsOk.ok (k : Nat) (a0 : S38) (a1 : List S69) (r : Bool) (h : impl_RobotsOk.f k a0 a1 = some r) : VCalls prog 91 [.agg (e38 a0), .c (R 4 e69 z69 a1)] [.c (.p (.sc (.bool r)))] := by
  unfold impl_RobotsOk.f at h
  refine VCalls.of (fn := f91) (N := 69) func91 rfl rfl (fun w0 => ?_)
  obtain ⟨t1, g1, h⟩ := bindN h
  let C1 := mkCon (impl_GridOk.ok k a0 t1 g1) impl_GridOk.go
  by_cases c2 : t1 = true
  · replace h := ip c2 h
    by_cases c3 : 10 < (a1.length : Int)
    · replace h := ip c3 h
      cases h
      exact rt func91 [.call C1, .dec 10 false, .b true, .fin] (oc C1 (o1 (bnf c2) (oT c3 on)))
    · replace h := iq c3 h
      have H0 : ∀ (kq : Nat) (v3 : Int), impl_RobotsOk.l0 kq a1 a0 v3 = some r → AG prog 91 69 [.c (.p (.sc (.bool r)))] w0 (headStk (codeOf f91) 0) (mkFS (impl_RobotsOk.h0T a1 v3 a0) (impl_RobotsOk.h0H a1 v3 a0)) := by
        intro kq
        induction kq with
        | zero => intro v3 h; cases h
        | succ kq ih =>
          intro v3 h
          rw [impl_RobotsOk.l0] at h
          by_cases c14 : v3 < (a1.length : Int)
          · replace h := ip c14 h
            obtain ⟨c15, h⟩ := ifN h
            by_cases c16 : (rdD z69 a1 v3).f0 < 0
            · replace h := ip c16 h
              cases h
              exact rt func91 [.b true, .dec 25 true, .b true, .fin] (oT c14 (o1 c15 (o1 c14 (oT c16 (oR on)))))
            · replace h := iq c16 h
              by_cases c17 : 99 < (rdD z69 a1 v3).f0
              · replace h := ip c17 h
                cases h
                exact rt func91 [.b true, .dec 25 false, .dec 30 true, .b true, .fin] (oT c14 (o1 c15 (o1 c14 (oF c16 (oT c17 (oR on))))))
              · replace h := iq c17 h
                by_cases c18 : 0 < v3
                · replace h := ip c18 h
                  obtain ⟨c19, h⟩ := ifN h
                  obtain ⟨c20, h⟩ := ifN h
                  by_cases c21 : (rdD z69 a1 v3).f0 ≤ (rdD z69 a1 (w64 (v3 - 1))).f0
                  · replace h := ip c21 h
                    cases h
                    exact rt func91 [.b true, .dec 25 false, .dec 30 false, .dec 33 true, .dec 45 true, .b true, .fin] (oT c14 (o1 c15 (o1 c14 (oF c16 (oF c17 (oT c18 (o1 c19 (o1 c20 (oT c21 (oR on))))))))))
                  · replace h := iq c21 h
                    obtain ⟨t4, g22, h⟩ := bindN h
                    let C22 := mkCon (impl_isFree.ok a0 ((rdD z69 a1 v3).f1) t4 g22) impl_isFree.go
                    by_cases c23 : t4 = true
                    · replace h := ip c23 h
                      by_cases c24 : (rdD z69 a1 v3).f2 = (-1)
                      · replace h := ip c24 h
                        exact hd func91 [.b true, .dec 25 false, .dec 30 false, .dec 33 true, .dec 45 false, .call C22, .dec 52 false, .dec 56 false, .b false, .fin] (oT c14 (o1 c15 (o1 c14 (oF c16 (oF c17 (oT c18 (o1 c19 (o1 c20 (oF c21 (oc C22 (o1 (bnf c23) (o1 (bnf (decide_eq_true c24)) (o1 (rfl : false = false) on))))))))))))) (ih (w64 (v3 + 1)) h)
                      · replace h := iq c24 h
                        obtain ⟨t5, g25, h⟩ := bindN h
                        let C25 := mkCon (impl_Beside.ok kq a0 ((rdD z69 a1 v3).f1) ((rdD z69 a1 v3).f2) t5 g25) impl_Beside.go
                        by_cases c26 : t5 = true
                        · replace h := ip c26 h
                          exact hd func91 [.b true, .dec 25 false, .dec 30 false, .dec 33 true, .dec 45 false, .call C22, .dec 52 false, .dec 56 true, .call C25, .b false, .fin] (oT c14 (o1 c15 (o1 c14 (oF c16 (oF c17 (oT c18 (o1 c19 (o1 c20 (oF c21 (oc C22 (o1 (bnf c23) (o1 (bnt (decide_eq_false c24)) (oc C25 (o1 (bnf c26) on)))))))))))))) (ih (w64 (v3 + 1)) h)
                        · replace h := iq c26 h
                          cases h
                          exact rt func91 [.b true, .dec 25 false, .dec 30 false, .dec 33 true, .dec 45 false, .call C22, .dec 52 false, .dec 56 true, .call C25, .b true, .fin] (oT c14 (o1 c15 (o1 c14 (oF c16 (oF c17 (oT c18 (o1 c19 (o1 c20 (oF c21 (oc C22 (o1 (bnf c23) (o1 (bnt (decide_eq_false c24)) (oc C25 (oN c26 on))))))))))))))
                    · replace h := iq c23 h
                      cases h
                      exact rt func91 [.b true, .dec 25 false, .dec 30 false, .dec 33 true, .dec 45 false, .call C22, .dec 52 true, .b true, .fin] (oT c14 (o1 c15 (o1 c14 (oF c16 (oF c17 (oT c18 (o1 c19 (o1 c20 (oF c21 (oc C22 (oN c23 (oR on))))))))))))
                · replace h := iq c18 h
                  obtain ⟨t6, g27, h⟩ := bindN h
                  let C27 := mkCon (impl_isFree.ok a0 ((rdD z69 a1 v3).f1) t6 g27) impl_isFree.go
                  by_cases c28 : t6 = true
                  · replace h := ip c28 h
                    by_cases c29 : (rdD z69 a1 v3).f2 = (-1)
                    · replace h := ip c29 h
                      exact hd func91 [.b true, .dec 25 false, .dec 30 false, .dec 33 false, .call C27, .dec 52 false, .dec 56 false, .b false, .fin] (oT c14 (o1 c15 (o1 c14 (oF c16 (oF c17 (oF c18 (oc C27 (o1 (bnf c28) (o1 (bnf (decide_eq_true c29)) (o1 (rfl : false = false) on)))))))))) (ih (w64 (v3 + 1)) h)
                    · replace h := iq c29 h
                      obtain ⟨t7, g30, h⟩ := bindN h
                      let C30 := mkCon (impl_Beside.ok kq a0 ((rdD z69 a1 v3).f1) ((rdD z69 a1 v3).f2) t7 g30) impl_Beside.go
                      by_cases c31 : t7 = true
                      · replace h := ip c31 h
                        exact hd func91 [.b true, .dec 25 false, .dec 30 false, .dec 33 false, .call C27, .dec 52 false, .dec 56 true, .call C30, .b false, .fin] (oT c14 (o1 c15 (o1 c14 (oF c16 (oF c17 (oF c18 (oc C27 (o1 (bnf c28) (o1 (bnt (decide_eq_false c29)) (oc C30 (o1 (bnf c31) on))))))))))) (ih (w64 (v3 + 1)) h)
                      · replace h := iq c31 h
                        cases h
                        exact rt func91 [.b true, .dec 25 false, .dec 30 false, .dec 33 false, .call C27, .dec 52 false, .dec 56 true, .call C30, .b true, .fin] (oT c14 (o1 c15 (o1 c14 (oF c16 (oF c17 (oF c18 (oc C27 (o1 (bnf c28) (o1 (bnt (decide_eq_false c29)) (oc C30 (oN c31 on)))))))))))
                  · replace h := iq c28 h
                    cases h
                    exact rt func91 [.b true, .dec 25 false, .dec 30 false, .dec 33 false, .call C27, .dec 52 true, .b true, .fin] (oT c14 (o1 c15 (o1 c14 (oF c16 (oF c17 (oF c18 (oc C27 (oN c28 (oR on)))))))))
          · replace h := iq c14 h
            obtain ⟨t8, g32, h⟩ := bindN h
            let C32 := mkCon (impl_areApart.ok kq a1 t8 g32) impl_areApart.go
            cases h
            exact rt func91 [.b false, .fin, .call C32, .fin] (oF c14 (oc C32 on))
      exact hd func91 [.call C1, .dec 10 false, .b false, .fin] (oc C1 (o1 (bnf c2) (oF c3 on))) (H0 k 0 h)
  · replace h := iq c2 h
    cases h
    exact rt func91 [.call C1, .dec 10 true, .b true, .fin] (oc C1 (oN c2 (oR on)))

/-! ### impl_WindowOk_1: function 162 -/
def impl_WindowOk_1.f (a0 : Int) (a1 : S42) : Option Bool := if a0 < 0 then (some true) else (some (decide (a1.f1 < a0)))
theorem impl_WindowOk_1.go : Callable prog 162 := ⟨_, func162, by kernel_rfl, rfl⟩
theorem impl_WindowOk_1.ok (a0 : Int) (a1 : S42) (r : Bool) (h : impl_WindowOk_1.f a0 a1 = some r) : VCalls prog 162 [.c (iI a0), .ptr [.sc (.int .i64 a1.f0), .sc (.int .i64 a1.f1), R 1 (eI .i64) 0 a1.f2]] [.c (.p (.sc (.bool r)))] := by
  unfold impl_WindowOk_1.f at h
  refine VCalls.of (fn := f162) (N := 12) func162 rfl rfl (fun w0 => ?_)
  by_cases c1 : a0 < 0
  · replace h := ip c1 h
    cases h
    exact rt func162 [.dec 6 true, .fin] (oT c1 on)
  · replace h := iq c1 h
    cases h
    exact rt func162 [.dec 6 false, .fin] (oF c1 on)

/-! ### slices_IndexFunc_int_int_3: function 182 -/
def slices_IndexFunc_int_int_3.h0T (a0 : List Int) (gi1 : FuncId) (u1_0_0 : V) (u1_0_1 : V) (u1_0_2 : V) (v2 : Int) : List (Nat × AV) := [(0, .t (.c (.p false (R 1 (eI .i64) 0 a0)))), (1, .bfn gi1 [[u1_0_0, u1_0_1, u1_0_2]]), (7, .t (.c (.p true (.sc (.int .i64 (a0.length : Int)))))), (8, .t (.c (.p true (iI v2))))]
def slices_IndexFunc_int_int_3.h0H (a0 : List Int) (gi1 : FuncId) (u1_0_0 : V) (u1_0_1 : V) (u1_0_2 : V) (v2 : Int) : List (Nat × Content) := []
def slices_IndexFunc_int_int_3.l0 : Nat → List Int → (Int → Option Bool) → Int → Option Int
  | 0, _, _, _ => none
  | kq + 1, a0, p1, v2 => if v2 < (a0.length : Int) then (if 0 ≤ v2 then ((p1 (rdD 0 a0 v2)).bind fun t3 => if t3 = true then (some v2) else (slices_IndexFunc_int_int_3.l0 kq a0 p1 (w64 (v2 + 1)))) else none) else (some (-1))
def slices_IndexFunc_int_int_3.f (k : Nat) (a0 : List Int) (p1 : Int → Option Bool) : Option Int := slices_IndexFunc_int_int_3.l0 k a0 p1 0
theorem slices_IndexFunc_int_int_3.go : Callable prog 182 := ⟨_, func182, by kernel_rfl, rfl⟩
theorem slices_IndexFunc_int_int_3.ok (k : Nat) (a0 : List Int) (p1 : Int → Option Bool) (gi1 : FuncId) (u1_0_0 u1_0_1 u1_0_2 : V) (hp1 : ∀ x0 r, p1 x0 = some r → VCalls prog gi1 [.c (iI x0), .ptr [u1_0_0, u1_0_1, u1_0_2]] [.c (.p (.sc (.bool r)))]) (go1 : Callable prog gi1) (r : Int) (h : slices_IndexFunc_int_int_3.f k a0 p1 = some r) : VCalls prog 182 [.c (R 1 (eI .i64) 0 a0), .fn gi1 [[u1_0_0, u1_0_1, u1_0_2]]] [.c (.p (iI r))] := by
  unfold slices_IndexFunc_int_int_3.f at h
  refine VCalls.of (fn := f182) (N := 19) func182 rfl rfl (fun w0 => ?_)
  have H0 : ∀ (kq : Nat) (v2 : Int), slices_IndexFunc_int_int_3.l0 kq a0 p1 v2 = some r → AG prog 182 19 [.c (.p (iI r))] w0 (headStk (codeOf f182) 0) (mkFS (slices_IndexFunc_int_int_3.h0T a0 gi1 u1_0_0 u1_0_1 u1_0_2 v2) (slices_IndexFunc_int_int_3.h0H a0 gi1 u1_0_0 u1_0_1 u1_0_2 v2)) := by
    intro kq
    induction kq with
    | zero => intro v2 h; cases h
    | succ kq ih =>
      intro v2 h
      rw [slices_IndexFunc_int_int_3.l0] at h
      by_cases c4 : v2 < (a0.length : Int)
      · replace h := ip c4 h
        obtain ⟨c5, h⟩ := ifN h
        obtain ⟨t3, g6, h⟩ := bindN h
        let C6 := mkCon (hp1 (rdD 0 a0 v2) t3 g6) go1
        by_cases c7 : t3 = true
        · replace h := ip c7 h
          cases h
          exact rt func182 [.b true, .call C6, .b true, .fin] (oT c4 (o1 c5 (o1 c4 (oc C6 (o1 c7 on)))))
        · replace h := iq c7 h
          exact hd func182 [.b true, .call C6, .b false, .fin] (oT c4 (o1 c5 (o1 c4 (oc C6 (o1 (eqf c7) on))))) (ih (w64 (v2 + 1)) h)
      · replace h := iq c4 h
        cases h
        exact rt func182 [.b false, .fin, .fin] (oF c4 on)
  exact hd func182 [.fin] on (H0 k 0 h)

/-! ### slices_ContainsFunc_int_int_3: function 102 -/
def slices_ContainsFunc_int_int_3.f (k : Nat) (a0 : List Int) (p1 : Int → Option Bool) : Option Bool := (slices_IndexFunc_int_int_3.f k a0 p1).bind fun t1 => some (decide (0 ≤ t1))
theorem slices_ContainsFunc_int_int_3.go : Callable prog 102 := ⟨_, func102, by kernel_rfl, rfl⟩
theorem slices_ContainsFunc_int_int_3.ok (k : Nat) (a0 : List Int) (p1 : Int → Option Bool) (gi1 : FuncId) (u1_0_0 u1_0_1 u1_0_2 : V) (hp1 : ∀ x0 r, p1 x0 = some r → VCalls prog gi1 [.c (iI x0), .ptr [u1_0_0, u1_0_1, u1_0_2]] [.c (.p (.sc (.bool r)))]) (go1 : Callable prog gi1) (r : Bool) (h : slices_ContainsFunc_int_int_3.f k a0 p1 = some r) : VCalls prog 102 [.c (R 1 (eI .i64) 0 a0), .fn gi1 [[u1_0_0, u1_0_1, u1_0_2]]] [.c (.p (.sc (.bool r)))] := by
  unfold slices_ContainsFunc_int_int_3.f at h
  refine VCalls.of (fn := f102) (N := 9) func102 rfl rfl (fun w0 => ?_)
  obtain ⟨t1, g1, h⟩ := bindN h
  let C1 := mkCon (slices_IndexFunc_int_int_3.ok k a0 p1 gi1 u1_0_0 u1_0_1 u1_0_2 hp1 go1 t1 g1) slices_IndexFunc_int_int_3.go
  cases h
  exact rt func102 [.call C1, .fin] (oc C1 on)

/-! ### impl_WindowOk: function 92 -/
def impl_WindowOk.f (k : Nat) (a0 : S42) : Option Bool := if a0.f0 < 1 then (some false) else (if 8 < a0.f0 then (some false) else (if a0.f1 < 1 then (some false) else (if 100 < a0.f1 then (some false) else (if (a0.f2.length : Int) = (w64 (a0.f0 * 6)) then ((slices_ContainsFunc_int_int_3.f k a0.f2 (fun x6 => impl_WindowOk_1.f x6 a0)).bind fun t1 => some (!t1)) else (some false)))))
theorem impl_WindowOk.go : Callable prog 92 := ⟨_, func92, by kernel_rfl, rfl⟩
theorem impl_WindowOk.ok (k : Nat) (a0 : S42) (r : Bool) (h : impl_WindowOk.f k a0 = some r) : VCalls prog 92 [.agg (e42 a0)] [.c (.p (.sc (.bool r)))] := by
  unfold impl_WindowOk.f at h
  refine VCalls.of (fn := f92) (N := 35) func92 rfl rfl (fun w0 => ?_)
  by_cases c1 : a0.f0 < 1
  · replace h := ip c1 h
    cases h
    exact rt func92 [.dec 6 true, .b true, .fin] (oT c1 (oR on))
  · replace h := iq c1 h
    by_cases c2 : 8 < a0.f0
    · replace h := ip c2 h
      cases h
      exact rt func92 [.dec 6 false, .dec 11 true, .b true, .fin] (oF c1 (oT c2 (oR on)))
    · replace h := iq c2 h
      by_cases c3 : a0.f1 < 1
      · replace h := ip c3 h
        cases h
        exact rt func92 [.dec 6 false, .dec 11 false, .dec 16 true, .b true, .fin] (oF c1 (oF c2 (oT c3 (oR on))))
      · replace h := iq c3 h
        by_cases c4 : 100 < a0.f1
        · replace h := ip c4 h
          cases h
          exact rt func92 [.dec 6 false, .dec 11 false, .dec 16 false, .dec 21 true, .b true, .fin] (oF c1 (oF c2 (oF c3 (oT c4 (oR on)))))
        · replace h := iq c4 h
          by_cases c5 : (a0.f2.length : Int) = (w64 (a0.f0 * 6))
          · replace h := ip c5 h
            obtain ⟨t1, g7, h⟩ := bindN h
            let C7 := mkCon (slices_ContainsFunc_int_int_3.ok k a0.f2 (fun x6 => impl_WindowOk_1.f x6 a0) 162 (iI a0.f0) (iI a0.f1) (R 1 (eI .i64) 0 a0.f2) (fun x6 r h => impl_WindowOk_1.ok x6 a0 r h) impl_WindowOk_1.go t1 g7) slices_ContainsFunc_int_int_3.go
            cases h
            exact rt func92 [.dec 6 false, .dec 11 false, .dec 16 false, .dec 21 false, .b false, .call C7, .fin] (oF c1 (oF c2 (oF c3 (oF c4 (o1 (bnf (decide_eq_true c5)) (oc C7 on))))))
          · replace h := iq c5 h
            cases h
            exact rt func92 [.dec 6 false, .dec 11 false, .dec 16 false, .dec 21 false, .b true, .fin] (oF c1 (oF c2 (oF c3 (oF c4 (o1 (bnt (decide_eq_false c5)) on)))))

/-! ### impl_jobsOk_1: function 210 -/
def impl_jobsOk_1.f (a0 : S72) (a1 : S45) : Option Bool := some (!decide ((a0.f0.length : Int) = (w64 (a1.f0 + 1))))
theorem impl_jobsOk_1.go : Callable prog 210 := ⟨_, func210, by kernel_rfl, rfl⟩
theorem impl_jobsOk_1.ok (a0 : S72) (a1 : S45) (r : Bool) (h : impl_jobsOk_1.f a0 a1 = some r) : VCalls prog 210 [.agg (e72 a0), .ptr [.sc (.int .i64 a1.f0), .sc (.int .i64 a1.f1), R 1 e72 z72 a1.f2]] [.c (.p (.sc (.bool r)))] := by
  unfold impl_jobsOk_1.f at h
  refine VCalls.of (fn := f210) (N := 11) func210 rfl rfl (fun w0 => ?_)
  cases h
  exact rt func210 [.fin] on

/-! ### slices_IndexFunc_impl_Way_impl_Way_3: function 236 -/
def slices_IndexFunc_impl_Way_impl_Way_3.h0T (a0 : List S72) (gi1 : FuncId) (u1_0_0 : V) (u1_0_1 : V) (u1_0_2 : V) (v2 : Int) : List (Nat × AV) := [(0, .t (.c (.p false (R 1 e72 z72 a0)))), (1, .bfn gi1 [[u1_0_0, u1_0_1, u1_0_2]]), (7, .t (.c (.p true (.sc (.int .i64 (a0.length : Int)))))), (8, .t (.c (.p true (iI v2))))]
def slices_IndexFunc_impl_Way_impl_Way_3.h0H (a0 : List S72) (gi1 : FuncId) (u1_0_0 : V) (u1_0_1 : V) (u1_0_2 : V) (v2 : Int) : List (Nat × Content) := []
def slices_IndexFunc_impl_Way_impl_Way_3.l0 : Nat → List S72 → (S72 → Option Bool) → Int → Option Int
  | 0, _, _, _ => none
  | kq + 1, a0, p1, v2 => if v2 < (a0.length : Int) then (if 0 ≤ v2 then ((p1 (rdD z72 a0 v2)).bind fun t3 => if t3 = true then (some v2) else (slices_IndexFunc_impl_Way_impl_Way_3.l0 kq a0 p1 (w64 (v2 + 1)))) else none) else (some (-1))
def slices_IndexFunc_impl_Way_impl_Way_3.f (k : Nat) (a0 : List S72) (p1 : S72 → Option Bool) : Option Int := slices_IndexFunc_impl_Way_impl_Way_3.l0 k a0 p1 0
theorem slices_IndexFunc_impl_Way_impl_Way_3.go : Callable prog 236 := ⟨_, func236, by kernel_rfl, rfl⟩
theorem slices_IndexFunc_impl_Way_impl_Way_3.ok (k : Nat) (a0 : List S72) (p1 : S72 → Option Bool) (gi1 : FuncId) (u1_0_0 u1_0_1 u1_0_2 : V) (hp1 : ∀ x0 r, p1 x0 = some r → VCalls prog gi1 [.agg (e72 x0), .ptr [u1_0_0, u1_0_1, u1_0_2]] [.c (.p (.sc (.bool r)))]) (go1 : Callable prog gi1) (r : Int) (h : slices_IndexFunc_impl_Way_impl_Way_3.f k a0 p1 = some r) : VCalls prog 236 [.c (R 1 e72 z72 a0), .fn gi1 [[u1_0_0, u1_0_1, u1_0_2]]] [.c (.p (iI r))] := by
  unfold slices_IndexFunc_impl_Way_impl_Way_3.f at h
  refine VCalls.of (fn := f236) (N := 19) func236 rfl rfl (fun w0 => ?_)
  have H0 : ∀ (kq : Nat) (v2 : Int), slices_IndexFunc_impl_Way_impl_Way_3.l0 kq a0 p1 v2 = some r → AG prog 236 19 [.c (.p (iI r))] w0 (headStk (codeOf f236) 0) (mkFS (slices_IndexFunc_impl_Way_impl_Way_3.h0T a0 gi1 u1_0_0 u1_0_1 u1_0_2 v2) (slices_IndexFunc_impl_Way_impl_Way_3.h0H a0 gi1 u1_0_0 u1_0_1 u1_0_2 v2)) := by
    intro kq
    induction kq with
    | zero => intro v2 h; cases h
    | succ kq ih =>
      intro v2 h
      rw [slices_IndexFunc_impl_Way_impl_Way_3.l0] at h
      by_cases c4 : v2 < (a0.length : Int)
      · replace h := ip c4 h
        obtain ⟨c5, h⟩ := ifN h
        obtain ⟨t3, g6, h⟩ := bindN h
        let C6 := mkCon (hp1 (rdD z72 a0 v2) t3 g6) go1
        by_cases c7 : t3 = true
        · replace h := ip c7 h
          cases h
          exact rt func236 [.b true, .call C6, .b true, .fin] (oT c4 (o1 c5 (o1 c4 (oc C6 (o1 c7 on)))))
        · replace h := iq c7 h
          exact hd func236 [.b true, .call C6, .b false, .fin] (oT c4 (o1 c5 (o1 c4 (oc C6 (o1 (eqf c7) on))))) (ih (w64 (v2 + 1)) h)
      · replace h := iq c4 h
        cases h
        exact rt func236 [.b false, .fin, .fin] (oF c4 on)
  exact hd func236 [.fin] on (H0 k 0 h)

/-! ### slices_ContainsFunc_impl_Way_impl_Way_3: function 209 -/
def slices_ContainsFunc_impl_Way_impl_Way_3.f (k : Nat) (a0 : List S72) (p1 : S72 → Option Bool) : Option Bool := (slices_IndexFunc_impl_Way_impl_Way_3.f k a0 p1).bind fun t1 => some (decide (0 ≤ t1))
theorem slices_ContainsFunc_impl_Way_impl_Way_3.go : Callable prog 209 := ⟨_, func209, by kernel_rfl, rfl⟩
theorem slices_ContainsFunc_impl_Way_impl_Way_3.ok (k : Nat) (a0 : List S72) (p1 : S72 → Option Bool) (gi1 : FuncId) (u1_0_0 u1_0_1 u1_0_2 : V) (hp1 : ∀ x0 r, p1 x0 = some r → VCalls prog gi1 [.agg (e72 x0), .ptr [u1_0_0, u1_0_1, u1_0_2]] [.c (.p (.sc (.bool r)))]) (go1 : Callable prog gi1) (r : Bool) (h : slices_ContainsFunc_impl_Way_impl_Way_3.f k a0 p1 = some r) : VCalls prog 209 [.c (R 1 e72 z72 a0), .fn gi1 [[u1_0_0, u1_0_1, u1_0_2]]] [.c (.p (.sc (.bool r)))] := by
  unfold slices_ContainsFunc_impl_Way_impl_Way_3.f at h
  refine VCalls.of (fn := f209) (N := 9) func209 rfl rfl (fun w0 => ?_)
  obtain ⟨t1, g1, h⟩ := bindN h
  let C1 := mkCon (slices_IndexFunc_impl_Way_impl_Way_3.ok k a0 p1 gi1 u1_0_0 u1_0_1 u1_0_2 hp1 go1 t1 g1) slices_IndexFunc_impl_Way_impl_Way_3.go
  cases h
  exact rt func209 [.call C1, .fin] (oc C1 on)

/-! ### impl_compare: function 113 -/
def impl_compare.f (a0 : Int) (a1 : Int) : Option Int := if a0 < a1 then (some (-1)) else (if a1 < a0 then (some 1) else (some 0))
theorem impl_compare.go : Callable prog 113 := ⟨_, func113, by kernel_rfl, rfl⟩
theorem impl_compare.ok (a0 : Int) (a1 : Int) (r : Int) (h : impl_compare.f a0 a1 = some r) : VCalls prog 113 [.c (iI a0), .c (iI a1)] [.c (.p (iI r))] := by
  unfold impl_compare.f at h
  refine VCalls.of (fn := f113) (N := 13) func113 rfl rfl (fun w0 => ?_)
  by_cases c1 : a0 < a1
  · replace h := ip c1 h
    cases h
    exact rt func113 [.b true, .fin] (oT c1 on)
  · replace h := iq c1 h
    by_cases c2 : a1 < a0
    · replace h := ip c2 h
      cases h
      exact rt func113 [.b false, .b true, .fin] (oF c1 (oT c2 on))
    · replace h := iq c2 h
      cases h
      exact rt func113 [.b false, .b false, .fin] (oF c1 (oF c2 on))

/-! ### impl_LayerOf_1: function 112 -/
def impl_LayerOf_1.f (a0 : S74) (a1 : S74) : Option Int := (impl_compare.f a0.f1 a1.f1).bind fun t1 => some t1
theorem impl_LayerOf_1.go : Callable prog 112 := ⟨_, func112, by kernel_rfl, rfl⟩
theorem impl_LayerOf_1.ok (a0 : S74) (a1 : S74) (r : Int) (h : impl_LayerOf_1.f a0 a1 = some r) : VCalls prog 112 [.agg (e74 a0), .agg (e74 a1)] [.c (.p (iI r))] := by
  unfold impl_LayerOf_1.f at h
  refine VCalls.of (fn := f112) (N := 10) func112 rfl rfl (fun w0 => ?_)
  obtain ⟨t1, g1, h⟩ := bindN h
  let C1 := mkCon (impl_compare.ok a0.f1 a1.f1 t1 g1) impl_compare.go
  cases h
  exact rt func112 [.call C1, .fin] (oc C1 on)

/-! ### slices_MinFunc_impl_Job_impl_Job_: function 111 -/
def slices_MinFunc_impl_Job_impl_Job_.h0T (a0 : List S74) (gi1 : FuncId) (v14 : Int) (v11 : Int) (v12 : Int) (v13 : Bool) : List (Nat × AV) := [(0, .t (.c (.p false (R 3 e74 z74 a0)))), (1, .bfn gi1 []), (4, .ptr 256 0), (5, .ptr 320 0), (6, .t (.c (.p true (iI v14))))]
def slices_MinFunc_impl_Job_impl_Job_.h0H (a0 : List S74) (gi1 : FuncId) (v14 : Int) (v11 : Int) (v12 : Int) (v13 : Bool) : List (Nat × Content) := [(256, .box 74 [.p true (iI 0), .p true (iI 0), .p true (.sc (.bool false))]), (320, .box 74 [.p false (iI v11), .p false (iI v12), .p false (.sc (.bool v13))])]
def slices_MinFunc_impl_Job_impl_Job_.l0 : Nat → List S74 → (S74 → S74 → Option Int) → Int → Int → Bool → Int → Option S74
  | 0, _, _, _, _, _, _ => none
  | kq + 1, a0, p1, v11, v12, v13, v14 => if v14 < (a0.length : Int) then (if 0 ≤ v14 then ((p1 (rdD z74 a0 v14) (⟨v11, v12, v13⟩ : S74)).bind fun t15 => if t15 < 0 then (slices_MinFunc_impl_Job_impl_Job_.l0 kq a0 p1 ((rdD z74 a0 v14).f0) ((rdD z74 a0 v14).f1) ((rdD z74 a0 v14).f2) (w64 (v14 + 1))) else (slices_MinFunc_impl_Job_impl_Job_.l0 kq a0 p1 v11 v12 v13 (w64 (v14 + 1)))) else none) else (some (⟨v11, v12, v13⟩ : S74))
def slices_MinFunc_impl_Job_impl_Job_.f (k : Nat) (a0 : List S74) (p1 : S74 → S74 → Option Int) : Option S74 := if (a0.length : Int) < 1 then (none) else (if 0 < (a0.length : Int) then (slices_MinFunc_impl_Job_impl_Job_.l0 k a0 p1 ((rdD z74 a0 0).f0) ((rdD z74 a0 0).f1) ((rdD z74 a0 0).f2) 1) else none)
theorem slices_MinFunc_impl_Job_impl_Job_.go : Callable prog 111 := ⟨_, func111, by kernel_rfl, rfl⟩
theorem slices_MinFunc_impl_Job_impl_Job_.ok (k : Nat) (a0 : List S74) (p1 : S74 → S74 → Option Int) (gi1 : FuncId) (hp1 : ∀ x0 x1 r, p1 x0 x1 = some r → VCalls prog gi1 [.agg (e74 x0), .agg (e74 x1)] [.c (.p (iI r))]) (go1 : Callable prog gi1) (r : S74) (h : slices_MinFunc_impl_Job_impl_Job_.f k a0 p1 = some r) : VCalls prog 111 [.c (R 3 e74 z74 a0), .fn gi1 []] [.agg (r74 r)] := by
  unfold slices_MinFunc_impl_Job_impl_Job_.f at h
  refine VCalls.of (fn := f111) (N := 33) func111 rfl rfl (fun w0 => ?_)
  by_cases c1 : (a0.length : Int) < 1
  · replace h := ip c1 h
    cases h
  · replace h := iq c1 h
    obtain ⟨c2, h⟩ := ifN h
    have H0 : ∀ (kq : Nat) (v11 : Int) (v12 : Int) (v13 : Bool) (v14 : Int), slices_MinFunc_impl_Job_impl_Job_.l0 kq a0 p1 v11 v12 v13 v14 = some r → AG prog 111 33 [.agg (r74 r)] w0 (headStk (codeOf f111) 0) (mkFS (slices_MinFunc_impl_Job_impl_Job_.h0T a0 gi1 v14 v11 v12 v13) (slices_MinFunc_impl_Job_impl_Job_.h0H a0 gi1 v14 v11 v12 v13)) := by
      intro kq
      induction kq with
      | zero => intro v11 v12 v13 v14 h; cases h
      | succ kq ih =>
        intro v11 v12 v13 v14 h
        rw [slices_MinFunc_impl_Job_impl_Job_.l0] at h
        by_cases c18 : v14 < (a0.length : Int)
        · replace h := ip c18 h
          obtain ⟨c19, h⟩ := ifN h
          obtain ⟨t15, g20, h⟩ := bindN h
          let C20 := mkCon (hp1 (rdD z74 a0 v14) (⟨v11, v12, v13⟩ : S74) t15 g20) go1
          by_cases c21 : t15 < 0
          · replace h := ip c21 h
            exact hd func111 [.b true, .call C20, .b true, .fin] (oT c18 (o1 c19 (o1 c18 (oc C20 (oT c21 (o1 c19 (o1 c18 on))))))) (ih ((rdD z74 a0 v14).f0) ((rdD z74 a0 v14).f1) ((rdD z74 a0 v14).f2) (w64 (v14 + 1)) h)
          · replace h := iq c21 h
            exact hd func111 [.b true, .call C20, .b false, .fin] (oT c18 (o1 c19 (o1 c18 (oc C20 (oF c21 on))))) (ih v11 v12 v13 (w64 (v14 + 1)) h)
        · replace h := iq c18 h
          cases h
          exact rt func111 [.b false, .fin, .fin] (oF c18 on)
    exact hd func111 [.b false, .fin] (oF c1 (o1 (by decide : (0 : Int) ≤ 0) (o1 c2 on))) (H0 k ((rdD z74 a0 0).f0) ((rdD z74 a0 0).f1) ((rdD z74 a0 0).f2) 1 h)

/-! ### impl_LayerOf: function 53 -/
def impl_LayerOf.f (k : Nat) (a0 : S48) : Option Int := if (a0.f6.length : Int) = 0 then (some (-1)) else ((slices_MinFunc_impl_Job_impl_Job_.f k a0.f6 (fun x2 x3 => impl_LayerOf_1.f x2 x3)).bind fun t1 => some t1.f1)
theorem impl_LayerOf.go : Callable prog 53 := ⟨_, func53, by kernel_rfl, rfl⟩
theorem impl_LayerOf.ok (k : Nat) (a0 : S48) (r : Int) (h : impl_LayerOf.f k a0 = some r) : VCalls prog 53 [.agg (e48 a0)] [.c (.p (iI r))] := by
  unfold impl_LayerOf.f at h
  refine VCalls.of (fn := f53) (N := 11) func53 rfl rfl (fun w0 => ?_)
  by_cases c1 : (a0.f6.length : Int) = 0
  · replace h := ip c1 h
    cases h
    exact rt func53 [.b true, .fin] (oT c1 on)
  · replace h := iq c1 h
    obtain ⟨t1, g4, h⟩ := bindN h
    let C4 := mkCon (slices_MinFunc_impl_Job_impl_Job_.ok k a0.f6 (fun x2 x3 => impl_LayerOf_1.f x2 x3) 112  (fun x2 x3 r h => impl_LayerOf_1.ok x2 x3 r h) impl_LayerOf_1.go t1 g4) slices_MinFunc_impl_Job_impl_Job_.go
    cases h
    exact rt func53 [.b false, .call C4, .fin] (oF c1 (oc C4 on))

/-! ### impl_RobotAt_1: function 124 -/
def impl_RobotAt_1.f (a0 : S69) (a1 : Int) : Option Bool := some (decide (a0.f0 = a1))
theorem impl_RobotAt_1.go : Callable prog 124 := ⟨_, func124, by kernel_rfl, rfl⟩
theorem impl_RobotAt_1.ok (a0 : S69) (a1 : Int) (r : Bool) (h : impl_RobotAt_1.f a0 a1 = some r) : VCalls prog 124 [.agg (e69 a0), .ptr [.sc (.int .i64 a1)]] [.c (.p (.sc (.bool r)))] := by
  unfold impl_RobotAt_1.f at h
  refine VCalls.of (fn := f124) (N := 8) func124 rfl rfl (fun w0 => ?_)
  cases h
  exact rt func124 [.fin] on

/-! ### slices_IndexFunc_impl_Robot_impl_Robot_1: function 123 -/
def slices_IndexFunc_impl_Robot_impl_Robot_1.h0T (a0 : List S69) (gi1 : FuncId) (u1_0_0 : V) (v2 : Int) : List (Nat × AV) := [(0, .t (.c (.p false (R 4 e69 z69 a0)))), (1, .bfn gi1 [[u1_0_0]]), (7, .t (.c (.p true (.sc (.int .i64 (a0.length : Int)))))), (8, .t (.c (.p true (iI v2))))]
def slices_IndexFunc_impl_Robot_impl_Robot_1.h0H (a0 : List S69) (gi1 : FuncId) (u1_0_0 : V) (v2 : Int) : List (Nat × Content) := []
def slices_IndexFunc_impl_Robot_impl_Robot_1.l0 : Nat → List S69 → (S69 → Option Bool) → Int → Option Int
  | 0, _, _, _ => none
  | kq + 1, a0, p1, v2 => if v2 < (a0.length : Int) then (if 0 ≤ v2 then ((p1 (rdD z69 a0 v2)).bind fun t3 => if t3 = true then (some v2) else (slices_IndexFunc_impl_Robot_impl_Robot_1.l0 kq a0 p1 (w64 (v2 + 1)))) else none) else (some (-1))
def slices_IndexFunc_impl_Robot_impl_Robot_1.f (k : Nat) (a0 : List S69) (p1 : S69 → Option Bool) : Option Int := slices_IndexFunc_impl_Robot_impl_Robot_1.l0 k a0 p1 0
theorem slices_IndexFunc_impl_Robot_impl_Robot_1.go : Callable prog 123 := ⟨_, func123, by kernel_rfl, rfl⟩
theorem slices_IndexFunc_impl_Robot_impl_Robot_1.ok (k : Nat) (a0 : List S69) (p1 : S69 → Option Bool) (gi1 : FuncId) (u1_0_0 : V) (hp1 : ∀ x0 r, p1 x0 = some r → VCalls prog gi1 [.agg (e69 x0), .ptr [u1_0_0]] [.c (.p (.sc (.bool r)))]) (go1 : Callable prog gi1) (r : Int) (h : slices_IndexFunc_impl_Robot_impl_Robot_1.f k a0 p1 = some r) : VCalls prog 123 [.c (R 4 e69 z69 a0), .fn gi1 [[u1_0_0]]] [.c (.p (iI r))] := by
  unfold slices_IndexFunc_impl_Robot_impl_Robot_1.f at h
  refine VCalls.of (fn := f123) (N := 19) func123 rfl rfl (fun w0 => ?_)
  have H0 : ∀ (kq : Nat) (v2 : Int), slices_IndexFunc_impl_Robot_impl_Robot_1.l0 kq a0 p1 v2 = some r → AG prog 123 19 [.c (.p (iI r))] w0 (headStk (codeOf f123) 0) (mkFS (slices_IndexFunc_impl_Robot_impl_Robot_1.h0T a0 gi1 u1_0_0 v2) (slices_IndexFunc_impl_Robot_impl_Robot_1.h0H a0 gi1 u1_0_0 v2)) := by
    intro kq
    induction kq with
    | zero => intro v2 h; cases h
    | succ kq ih =>
      intro v2 h
      rw [slices_IndexFunc_impl_Robot_impl_Robot_1.l0] at h
      by_cases c4 : v2 < (a0.length : Int)
      · replace h := ip c4 h
        obtain ⟨c5, h⟩ := ifN h
        obtain ⟨t3, g6, h⟩ := bindN h
        let C6 := mkCon (hp1 (rdD z69 a0 v2) t3 g6) go1
        by_cases c7 : t3 = true
        · replace h := ip c7 h
          cases h
          exact rt func123 [.b true, .call C6, .b true, .fin] (oT c4 (o1 c5 (o1 c4 (oc C6 (o1 c7 on)))))
        · replace h := iq c7 h
          exact hd func123 [.b true, .call C6, .b false, .fin] (oT c4 (o1 c5 (o1 c4 (oc C6 (o1 (eqf c7) on))))) (ih (w64 (v2 + 1)) h)
      · replace h := iq c4 h
        cases h
        exact rt func123 [.b false, .fin, .fin] (oF c4 on)
  exact hd func123 [.fin] on (H0 k 0 h)

/-! ### impl_RobotAt: function 61 -/
def impl_RobotAt.f (k : Nat) (a0 : List S69) (a1 : Int) : Option Int := (slices_IndexFunc_impl_Robot_impl_Robot_1.f k a0 (fun x1 => impl_RobotAt_1.f x1 a1)).bind fun t1 => some t1
theorem impl_RobotAt.go : Callable prog 61 := ⟨_, func61, by kernel_rfl, rfl⟩
theorem impl_RobotAt.ok (k : Nat) (a0 : List S69) (a1 : Int) (r : Int) (h : impl_RobotAt.f k a0 a1 = some r) : VCalls prog 61 [.c (R 4 e69 z69 a0), .c (iI a1)] [.c (.p (iI r))] := by
  unfold impl_RobotAt.f at h
  refine VCalls.of (fn := f61) (N := 8) func61 rfl rfl (fun w0 => ?_)
  obtain ⟨t1, g2, h⟩ := bindN h
  let C2 := mkCon (slices_IndexFunc_impl_Robot_impl_Robot_1.ok k a0 (fun x1 => impl_RobotAt_1.f x1 a1) 124 (iI a1) (fun x1 r h => impl_RobotAt_1.ok x1 a1 r h) impl_RobotAt_1.go t1 g2) slices_IndexFunc_impl_Robot_impl_Robot_1.go
  cases h
  exact rt func61 [.call C2, .fin] (oc C2 on)

/-! ### impl_isJob_1: function 237 -/
def impl_isJob_1.f (a0 : S74) (a1 : S74) : Option Bool := some (decide (a0.f0 = a1.f0))
theorem impl_isJob_1.go : Callable prog 237 := ⟨_, func237, by kernel_rfl, rfl⟩
theorem impl_isJob_1.ok (a0 : S74) (a1 : S74) (r : Bool) (h : impl_isJob_1.f a0 a1 = some r) : VCalls prog 237 [.agg (e74 a0), .ptr [.sc (.int .i64 a1.f0), .sc (.int .i64 a1.f1), .sc (.bool a1.f2)]] [.c (.p (.sc (.bool r)))] := by
  unfold impl_isJob_1.f at h
  refine VCalls.of (fn := f237) (N := 9) func237 rfl rfl (fun w0 => ?_)
  cases h
  exact rt func237 [.fin] on

/-! ### slices_IndexFunc_impl_Job_impl_Job_3: function 59 -/
def slices_IndexFunc_impl_Job_impl_Job_3.h0T (a0 : List S74) (gi1 : FuncId) (u1_0_0 : V) (u1_0_1 : V) (u1_0_2 : V) (v2 : Int) : List (Nat × AV) := [(0, .t (.c (.p false (R 3 e74 z74 a0)))), (1, .bfn gi1 [[u1_0_0, u1_0_1, u1_0_2]]), (7, .t (.c (.p true (.sc (.int .i64 (a0.length : Int)))))), (8, .t (.c (.p true (iI v2))))]
def slices_IndexFunc_impl_Job_impl_Job_3.h0H (a0 : List S74) (gi1 : FuncId) (u1_0_0 : V) (u1_0_1 : V) (u1_0_2 : V) (v2 : Int) : List (Nat × Content) := []
def slices_IndexFunc_impl_Job_impl_Job_3.l0 : Nat → List S74 → (S74 → Option Bool) → Int → Option Int
  | 0, _, _, _ => none
  | kq + 1, a0, p1, v2 => if v2 < (a0.length : Int) then (if 0 ≤ v2 then ((p1 (rdD z74 a0 v2)).bind fun t3 => if t3 = true then (some v2) else (slices_IndexFunc_impl_Job_impl_Job_3.l0 kq a0 p1 (w64 (v2 + 1)))) else none) else (some (-1))
def slices_IndexFunc_impl_Job_impl_Job_3.f (k : Nat) (a0 : List S74) (p1 : S74 → Option Bool) : Option Int := slices_IndexFunc_impl_Job_impl_Job_3.l0 k a0 p1 0
theorem slices_IndexFunc_impl_Job_impl_Job_3.go : Callable prog 59 := ⟨_, func59, by kernel_rfl, rfl⟩
theorem slices_IndexFunc_impl_Job_impl_Job_3.ok (k : Nat) (a0 : List S74) (p1 : S74 → Option Bool) (gi1 : FuncId) (u1_0_0 u1_0_1 u1_0_2 : V) (hp1 : ∀ x0 r, p1 x0 = some r → VCalls prog gi1 [.agg (e74 x0), .ptr [u1_0_0, u1_0_1, u1_0_2]] [.c (.p (.sc (.bool r)))]) (go1 : Callable prog gi1) (r : Int) (h : slices_IndexFunc_impl_Job_impl_Job_3.f k a0 p1 = some r) : VCalls prog 59 [.c (R 3 e74 z74 a0), .fn gi1 [[u1_0_0, u1_0_1, u1_0_2]]] [.c (.p (iI r))] := by
  unfold slices_IndexFunc_impl_Job_impl_Job_3.f at h
  refine VCalls.of (fn := f59) (N := 19) func59 rfl rfl (fun w0 => ?_)
  have H0 : ∀ (kq : Nat) (v2 : Int), slices_IndexFunc_impl_Job_impl_Job_3.l0 kq a0 p1 v2 = some r → AG prog 59 19 [.c (.p (iI r))] w0 (headStk (codeOf f59) 0) (mkFS (slices_IndexFunc_impl_Job_impl_Job_3.h0T a0 gi1 u1_0_0 u1_0_1 u1_0_2 v2) (slices_IndexFunc_impl_Job_impl_Job_3.h0H a0 gi1 u1_0_0 u1_0_1 u1_0_2 v2)) := by
    intro kq
    induction kq with
    | zero => intro v2 h; cases h
    | succ kq ih =>
      intro v2 h
      rw [slices_IndexFunc_impl_Job_impl_Job_3.l0] at h
      by_cases c4 : v2 < (a0.length : Int)
      · replace h := ip c4 h
        obtain ⟨c5, h⟩ := ifN h
        obtain ⟨t3, g6, h⟩ := bindN h
        let C6 := mkCon (hp1 (rdD z74 a0 v2) t3 g6) go1
        by_cases c7 : t3 = true
        · replace h := ip c7 h
          cases h
          exact rt func59 [.b true, .call C6, .b true, .fin] (oT c4 (o1 c5 (o1 c4 (oc C6 (o1 c7 on)))))
        · replace h := iq c7 h
          exact hd func59 [.b true, .call C6, .b false, .fin] (oT c4 (o1 c5 (o1 c4 (oc C6 (o1 (eqf c7) on))))) (ih (w64 (v2 + 1)) h)
      · replace h := iq c4 h
        cases h
        exact rt func59 [.b false, .fin, .fin] (oF c4 on)
  exact hd func59 [.fin] on (H0 k 0 h)

/-! ### slices_ContainsFunc_impl_Job_impl_Job_3: function 100 -/
def slices_ContainsFunc_impl_Job_impl_Job_3.f (k : Nat) (a0 : List S74) (p1 : S74 → Option Bool) : Option Bool := (slices_IndexFunc_impl_Job_impl_Job_3.f k a0 p1).bind fun t1 => some (decide (0 ≤ t1))
theorem slices_ContainsFunc_impl_Job_impl_Job_3.go : Callable prog 100 := ⟨_, func100, by kernel_rfl, rfl⟩
theorem slices_ContainsFunc_impl_Job_impl_Job_3.ok (k : Nat) (a0 : List S74) (p1 : S74 → Option Bool) (gi1 : FuncId) (u1_0_0 u1_0_1 u1_0_2 : V) (hp1 : ∀ x0 r, p1 x0 = some r → VCalls prog gi1 [.agg (e74 x0), .ptr [u1_0_0, u1_0_1, u1_0_2]] [.c (.p (.sc (.bool r)))]) (go1 : Callable prog gi1) (r : Bool) (h : slices_ContainsFunc_impl_Job_impl_Job_3.f k a0 p1 = some r) : VCalls prog 100 [.c (R 3 e74 z74 a0), .fn gi1 [[u1_0_0, u1_0_1, u1_0_2]]] [.c (.p (.sc (.bool r)))] := by
  unfold slices_ContainsFunc_impl_Job_impl_Job_3.f at h
  refine VCalls.of (fn := f100) (N := 9) func100 rfl rfl (fun w0 => ?_)
  obtain ⟨t1, g1, h⟩ := bindN h
  let C1 := mkCon (slices_IndexFunc_impl_Job_impl_Job_3.ok k a0 p1 gi1 u1_0_0 u1_0_1 u1_0_2 hp1 go1 t1 g1) slices_IndexFunc_impl_Job_impl_Job_3.go
  cases h
  exact rt func100 [.call C1, .fin] (oc C1 on)

/-! ### impl_isJob: function 211 -/
def impl_isJob.f (k : Nat) (a0 : S48) (a1 : Int) (a2 : Int) : Option Bool := if 0 ≤ a1 then (if a1 < (a0.f6.length : Int) then (if a1 < (a0.f5.f2.length : Int) then ((impl_RobotAt.f k a0.f1 ((rdD z74 a0.f6 a1).f0)).bind fun t1 => if t1 < 0 then (some false) else (if 0 ≤ t1 then (if t1 < (a0.f1.length : Int) then (if (rdD z69 a0.f1 t1).f3 = true then (some false) else (if (rdD z74 a0.f6 a1).f1 < 0 then (some false) else (if a0.f5.f0 < (rdD z74 a0.f6 a1).f1 then (some false) else (if (w64 (a2 + 1)) < (rdD z74 a0.f6 a1).f1 then (some false) else (if a1 ≤ (a0.f6.length : Int) then ((slices_ContainsFunc_impl_Job_impl_Job_3.f k ((a0.f6.drop (0 : Int).toNat).take (a1.toNat - (0 : Int).toNat)) (fun x13 => impl_isJob_1.f x13 (rdD z74 a0.f6 a1))).bind fun t2 => if t2 = true then (some false) else (if 0 ≤ (rdD z74 a0.f6 a1).f1 then (if (rdD z74 a0.f6 a1).f1 < (((rdD z72 a0.f5.f2 a1).f0).length : Int) then (if (rdD z69 a0.f1 t1).f1 = (rdD 0 ((rdD z72 a0.f5.f2 a1).f0) ((rdD z74 a0.f6 a1).f1)) then (if (rdD z74 a0.f6 a1).f2 = true then (if (rdD z74 a0.f6 a1).f1 < a0.f5.f0 then (if 0 ≤ (w64 ((rdD z74 a0.f6 a1).f1 + 1)) then (if (w64 ((rdD z74 a0.f6 a1).f1 + 1)) < (((rdD z72 a0.f5.f2 a1).f0).length : Int) then (some (decide ((rdD z69 a0.f1 t1).f2 = (rdD 0 ((rdD z72 a0.f5.f2 a1).f0) (w64 ((rdD z74 a0.f6 a1).f1 + 1)))))) else none) else none) else (some false)) else (some (decide ((rdD z69 a0.f1 t1).f2 = (-1))))) else (some false)) else none) else none)) else none))))) else none) else none)) else none) else none) else none
theorem impl_isJob.go : Callable prog 211 := ⟨_, func211, by kernel_rfl, rfl⟩
theorem impl_isJob.ok (k : Nat) (a0 : S48) (a1 : Int) (a2 : Int) (r : Bool) (h : impl_isJob.f k a0 a1 a2 = some r) : VCalls prog 211 [.agg (e48 a0), .c (iI a1), .c (iI a2)] [.c (.p (.sc (.bool r)))] := by
  unfold impl_isJob.f at h
  refine VCalls.of (fn := f211) (N := 107) func211 rfl rfl (fun w0 => ?_)
  obtain ⟨c1, h⟩ := ifN h
  obtain ⟨c2, h⟩ := ifN h
  obtain ⟨c3, h⟩ := ifN h
  obtain ⟨t1, g4, h⟩ := bindN h
  let C4 := mkCon (impl_RobotAt.ok k a0.f1 ((rdD z74 a0.f6 a1).f0) t1 g4) impl_RobotAt.go
  by_cases c5 : t1 < 0
  · replace h := ip c5 h
    cases h
    exact rt func211 [.call C4, .dec 29 true, .b true, .fin] (o1 c1 (o1 c2 (o1 c1 (o1 c3 (oc C4 (oT c5 (oR on)))))))
  · replace h := iq c5 h
    obtain ⟨c6, h⟩ := ifN h
    obtain ⟨c7, h⟩ := ifN h
    by_cases c8 : (rdD z69 a0.f1 t1).f3 = true
    · replace h := ip c8 h
      cases h
      exact rt func211 [.call C4, .dec 29 false, .dec 37 true, .b true, .fin] (o1 c1 (o1 c2 (o1 c1 (o1 c3 (oc C4 (oF c5 (o1 c6 (o1 c7 (o1 c8 (oR on))))))))))
    · replace h := iq c8 h
      by_cases c9 : (rdD z74 a0.f6 a1).f1 < 0
      · replace h := ip c9 h
        cases h
        exact rt func211 [.call C4, .dec 29 false, .dec 37 false, .dec 42 true, .b true, .fin] (o1 c1 (o1 c2 (o1 c1 (o1 c3 (oc C4 (oF c5 (o1 c6 (o1 c7 (o1 (eqf c8) (oT c9 (oR on)))))))))))
      · replace h := iq c9 h
        by_cases c10 : a0.f5.f0 < (rdD z74 a0.f6 a1).f1
        · replace h := ip c10 h
          cases h
          exact rt func211 [.call C4, .dec 29 false, .dec 37 false, .dec 42 false, .dec 50 true, .b true, .fin] (o1 c1 (o1 c2 (o1 c1 (o1 c3 (oc C4 (oF c5 (o1 c6 (o1 c7 (o1 (eqf c8) (oF c9 (oT c10 (oR on))))))))))))
        · replace h := iq c10 h
          by_cases c11 : (w64 (a2 + 1)) < (rdD z74 a0.f6 a1).f1
          · replace h := ip c11 h
            cases h
            exact rt func211 [.call C4, .dec 29 false, .dec 37 false, .dec 42 false, .dec 50 false, .b true, .fin] (o1 c1 (o1 c2 (o1 c1 (o1 c3 (oc C4 (oF c5 (o1 c6 (o1 c7 (o1 (eqf c8) (oF c9 (oF c10 (oT c11 on))))))))))))
          · replace h := iq c11 h
            obtain ⟨c12, h⟩ := ifN h
            obtain ⟨t2, g14, h⟩ := bindN h
            let C14 := mkCon (slices_ContainsFunc_impl_Job_impl_Job_3.ok k ((a0.f6.drop (0 : Int).toNat).take (a1.toNat - (0 : Int).toNat)) (fun x13 => impl_isJob_1.f x13 (rdD z74 a0.f6 a1)) 237 (.sc (.int .i64 ((rdD z74 a0.f6 a1).f0))) (.sc (.int .i64 ((rdD z74 a0.f6 a1).f1))) (.sc (.bool ((rdD z74 a0.f6 a1).f2))) (fun x13 r h => impl_isJob_1.ok x13 (rdD z74 a0.f6 a1) r h) impl_isJob_1.go t2 g14) slices_ContainsFunc_impl_Job_impl_Job_3.go
            by_cases c15 : t2 = true
            · replace h := ip c15 h
              cases h
              exact rt func211 [.call C4, .dec 29 false, .dec 37 false, .dec 42 false, .dec 50 false, .b false, .cst 60 (R 3 e74 z74 ((a0.f6.drop (0 : Int).toNat).take (a1.toNat - (0 : Int).toNat))), .call C14, .dec 63 true, .b true, .fin] (o1 c1 (o1 c2 (o1 c1 (o1 c3 (oc C4 (oF c5 (o1 c6 (o1 c7 (o1 (eqf c8) (oF c9 (oF c10 (oF c11 (o1 (by decide : (0 : Int) ≤ 0) (o1 c1 (o1 c12 (o1 (VE.cut (z := 3) (e := e74) (d := z74) a0.f6 (n := a0.f6.length) (lo := 0) (hi := a1) rfl (by decide : (0 : Int) ≤ 0) c1 c12) (oc C14 (o1 c15 (oR on)))))))))))))))))))
            · replace h := iq c15 h
              obtain ⟨c16, h⟩ := ifN h
              obtain ⟨c17, h⟩ := ifN h
              by_cases c18 : (rdD z69 a0.f1 t1).f1 = (rdD 0 ((rdD z72 a0.f5.f2 a1).f0) ((rdD z74 a0.f6 a1).f1))
              · replace h := ip c18 h
                by_cases c19 : (rdD z74 a0.f6 a1).f2 = true
                · replace h := ip c19 h
                  by_cases c20 : (rdD z74 a0.f6 a1).f1 < a0.f5.f0
                  · replace h := ip c20 h
                    obtain ⟨c21, h⟩ := ifN h
                    obtain ⟨c22, h⟩ := ifN h
                    cases h
                    exact rt func211 [.call C4, .dec 29 false, .dec 37 false, .dec 42 false, .dec 50 false, .b false, .cst 60 (R 3 e74 z74 ((a0.f6.drop (0 : Int).toNat).take (a1.toNat - (0 : Int).toNat))), .call C14, .dec 63 false, .b false, .b true, .dec 85 true, .fin] (o1 c1 (o1 c2 (o1 c1 (o1 c3 (oc C4 (oF c5 (o1 c6 (o1 c7 (o1 (eqf c8) (oF c9 (oF c10 (oF c11 (o1 (by decide : (0 : Int) ≤ 0) (o1 c1 (o1 c12 (o1 (VE.cut (z := 3) (e := e74) (d := z74) a0.f6 (n := a0.f6.length) (lo := 0) (hi := a1) rfl (by decide : (0 : Int) ≤ 0) c1 c12) (oc C14 (o1 (eqf c15) (o1 c6 (o1 c7 (o1 c16 (o1 c17 (o1 (bnf (decide_eq_true c18)) (o1 c19 (oT c20 (o1 c6 (o1 c7 (o1 c21 (o1 c22 on)))))))))))))))))))))))))))))
                  · replace h := iq c20 h
                    cases h
                    exact rt func211 [.call C4, .dec 29 false, .dec 37 false, .dec 42 false, .dec 50 false, .b false, .cst 60 (R 3 e74 z74 ((a0.f6.drop (0 : Int).toNat).take (a1.toNat - (0 : Int).toNat))), .call C14, .dec 63 false, .b false, .b true, .dec 85 false, .fin] (o1 c1 (o1 c2 (o1 c1 (o1 c3 (oc C4 (oF c5 (o1 c6 (o1 c7 (o1 (eqf c8) (oF c9 (oF c10 (oF c11 (o1 (by decide : (0 : Int) ≤ 0) (o1 c1 (o1 c12 (o1 (VE.cut (z := 3) (e := e74) (d := z74) a0.f6 (n := a0.f6.length) (lo := 0) (hi := a1) rfl (by decide : (0 : Int) ≤ 0) c1 c12) (oc C14 (o1 (eqf c15) (o1 c6 (o1 c7 (o1 c16 (o1 c17 (o1 (bnf (decide_eq_true c18)) (o1 c19 (oF c20 on)))))))))))))))))))))))))
                · replace h := iq c19 h
                  cases h
                  exact rt func211 [.call C4, .dec 29 false, .dec 37 false, .dec 42 false, .dec 50 false, .b false, .cst 60 (R 3 e74 z74 ((a0.f6.drop (0 : Int).toNat).take (a1.toNat - (0 : Int).toNat))), .call C14, .dec 63 false, .b false, .b false, .fin] (o1 c1 (o1 c2 (o1 c1 (o1 c3 (oc C4 (oF c5 (o1 c6 (o1 c7 (o1 (eqf c8) (oF c9 (oF c10 (oF c11 (o1 (by decide : (0 : Int) ≤ 0) (o1 c1 (o1 c12 (o1 (VE.cut (z := 3) (e := e74) (d := z74) a0.f6 (n := a0.f6.length) (lo := 0) (hi := a1) rfl (by decide : (0 : Int) ≤ 0) c1 c12) (oc C14 (o1 (eqf c15) (o1 c6 (o1 c7 (o1 c16 (o1 c17 (o1 (bnf (decide_eq_true c18)) (o1 (eqf c19) (o1 c6 (o1 c7 on))))))))))))))))))))))))))
              · replace h := iq c18 h
                cases h
                exact rt func211 [.call C4, .dec 29 false, .dec 37 false, .dec 42 false, .dec 50 false, .b false, .cst 60 (R 3 e74 z74 ((a0.f6.drop (0 : Int).toNat).take (a1.toNat - (0 : Int).toNat))), .call C14, .dec 63 false, .b true, .fin] (o1 c1 (o1 c2 (o1 c1 (o1 c3 (oc C4 (oF c5 (o1 c6 (o1 c7 (o1 (eqf c8) (oF c9 (oF c10 (oF c11 (o1 (by decide : (0 : Int) ≤ 0) (o1 c1 (o1 c12 (o1 (VE.cut (z := 3) (e := e74) (d := z74) a0.f6 (n := a0.f6.length) (lo := 0) (hi := a1) rfl (by decide : (0 : Int) ≤ 0) c1 c12) (oc C14 (o1 (eqf c15) (o1 c6 (o1 c7 (o1 c16 (o1 c17 (o1 (bnt (decide_eq_false c18)) on)))))))))))))))))))))))

/-! ### impl_jobsOk: function 163 -/
def impl_jobsOk.h0T (a1 : Bool) (t2 : Int) (a0 : S48) (v4 : Int) : List (Nat × AV) := [(1, .t (.c (.p false (.sc (.bool a1))))), (2, .ptr 128 0), (5, .ptr 320 0), (6, .t (.c (.p true (iI t2)))), (70, .t (.c (.p true (.sc (.int .i64 (a0.f6.length : Int)))))), (71, .t (.c (.p true (iI v4))))]
def impl_jobsOk.h0H (a1 : Bool) (t2 : Int) (a0 : S48) (v4 : Int) : List (Nat × Content) := [(128, .box 48 [.p false (iI a0.f0.f0.f0), .p false (iI a0.f0.f0.f1), .p false (.sc (.string a0.f0.f0.f2)), .p false (iI a0.f0.f1), .p false (iI a0.f0.f2), .p false (iI a0.f0.f3), .p false (iI a0.f0.f4), .p false (R 4 e69 z69 a0.f1), .p false (iI a0.f2.f0), .p false (iI a0.f2.f1), .p false (R 1 (eI .i64) 0 a0.f2.f2), .p false (iI a0.f3), .p false (.sc (.bool a0.f4)), .p false (iI a0.f5.f0), .p false (iI a0.f5.f1), .p false (R 1 e72 z72 a0.f5.f2), .p false (R 3 e74 z74 a0.f6), .p false (R 1 (eI .i64) 0 a0.f7)]), (320, .box 45 [.p false (iI a0.f5.f0), .p false (iI a0.f5.f1), .p false (R 1 e72 z72 a0.f5.f2)])]
def impl_jobsOk.l0 : Nat → S48 → Int → Bool → Int → Option Bool
  | 0, _, _, _, _ => none
  | kq + 1, a0, t2, a1, v4 => if v4 < (a0.f6.length : Int) then ((impl_isJob.f kq a0 v4 t2).bind fun t5 => if t5 = true then (impl_jobsOk.l0 kq a0 t2 a1 (w64 (v4 + 1))) else (some false)) else (if a1 = true then (some true) else (some (decide (t2 < a0.f5.f0))))
def impl_jobsOk.f (k : Nat) (a0 : S48) (a1 : Bool) : Option Bool := if a0.f4 = true then (if a0.f5.f0 < 0 then (some false) else (if 20 < a0.f5.f0 then (some false) else (if (a0.f6.length : Int) < 1 then (some false) else (if 10 < (a0.f6.length : Int) then (some false) else (if (a0.f6.length : Int) = (a0.f5.f2.length : Int) then ((slices_ContainsFunc_impl_Way_impl_Way_3.f k a0.f5.f2 (fun x7 => impl_jobsOk_1.f x7 a0.f5)).bind fun t1 => if t1 = true then (some false) else ((impl_LayerOf.f k a0).bind fun t2 => impl_jobsOk.l0 k a0 t2 a1 0)) else (some false)))))) else (if a0.f5.f0 = 0 then (if a0.f5.f1 = 0 then (if (a0.f5.f2.length : Int) = 0 then (some (decide ((a0.f6.length : Int) = 0))) else (some false)) else (some false)) else (some false))
theorem impl_jobsOk.go : Callable prog 163 := ⟨_, func163, by kernel_rfl, rfl⟩
theorem impl_jobsOk.ok (k : Nat) (a0 : S48) (a1 : Bool) (r : Bool) (h : impl_jobsOk.f k a0 a1 = some r) : VCalls prog 163 [.agg (e48 a0), .c (.sc (.bool a1))] [.c (.p (.sc (.bool r)))] := by
  unfold impl_jobsOk.f at h
  refine VCalls.of (fn := f163) (N := 87) func163 rfl rfl (fun w0 => ?_)
  by_cases c1 : a0.f4 = true
  · replace h := ip c1 h
    by_cases c2 : a0.f5.f0 < 0
    · replace h := ip c2 h
      cases h
      exact rt func163 [.b false, .dec 36 true, .b true, .fin] (o1 (bnf c1) (oT c2 (oR on)))
    · replace h := iq c2 h
      by_cases c3 : 20 < a0.f5.f0
      · replace h := ip c3 h
        cases h
        exact rt func163 [.b false, .dec 36 false, .dec 41 true, .b true, .fin] (o1 (bnf c1) (oF c2 (oT c3 (oR on))))
      · replace h := iq c3 h
        by_cases c4 : (a0.f6.length : Int) < 1
        · replace h := ip c4 h
          cases h
          exact rt func163 [.b false, .dec 36 false, .dec 41 false, .dec 47 true, .b true, .fin] (o1 (bnf c1) (oF c2 (oF c3 (oT c4 (oR on)))))
        · replace h := iq c4 h
          by_cases c5 : 10 < (a0.f6.length : Int)
          · replace h := ip c5 h
            cases h
            exact rt func163 [.b false, .dec 36 false, .dec 41 false, .dec 47 false, .dec 53 true, .b true, .fin] (o1 (bnf c1) (oF c2 (oF c3 (oF c4 (oT c5 (oR on))))))
          · replace h := iq c5 h
            by_cases c6 : (a0.f6.length : Int) = (a0.f5.f2.length : Int)
            · replace h := ip c6 h
              obtain ⟨t1, g8, h⟩ := bindN h
              let C8 := mkCon (slices_ContainsFunc_impl_Way_impl_Way_3.ok k a0.f5.f2 (fun x7 => impl_jobsOk_1.f x7 a0.f5) 210 (iI a0.f5.f0) (iI a0.f5.f1) (R 1 e72 z72 a0.f5.f2) (fun x7 r h => impl_jobsOk_1.ok x7 a0.f5 r h) impl_jobsOk_1.go t1 g8) slices_ContainsFunc_impl_Way_impl_Way_3.go
              by_cases c9 : t1 = true
              · replace h := ip c9 h
                cases h
                exact rt func163 [.b false, .dec 36 false, .dec 41 false, .dec 47 false, .dec 53 false, .b false, .call C8, .b true, .fin] (o1 (bnf c1) (oF c2 (oF c3 (oF c4 (oF c5 (o1 (bnf (decide_eq_true c6)) (oc C8 (o1 c9 on))))))))
              · replace h := iq c9 h
                obtain ⟨t2, g10, h⟩ := bindN h
                let C10 := mkCon (impl_LayerOf.ok k a0 t2 g10) impl_LayerOf.go
                have H0 : ∀ (kq : Nat) (v4 : Int), impl_jobsOk.l0 kq a0 t2 a1 v4 = some r → AG prog 163 87 [.c (.p (.sc (.bool r)))] w0 (headStk (codeOf f163) 0) (mkFS (impl_jobsOk.h0T a1 t2 a0 v4) (impl_jobsOk.h0H a1 t2 a0 v4)) := by
                  intro kq
                  induction kq with
                  | zero => intro v4 h; cases h
                  | succ kq ih =>
                    intro v4 h
                    rw [impl_jobsOk.l0] at h
                    by_cases c14 : v4 < (a0.f6.length : Int)
                    · replace h := ip c14 h
                      obtain ⟨t5, g15, h⟩ := bindN h
                      let C15 := mkCon (impl_isJob.ok kq a0 v4 t2 t5 g15) impl_isJob.go
                      by_cases c16 : t5 = true
                      · replace h := ip c16 h
                        exact hd func163 [.b true, .call C15, .b false, .fin] (oT c14 (oc C15 (o1 (bnf c16) on))) (ih (w64 (v4 + 1)) h)
                      · replace h := iq c16 h
                        cases h
                        exact rt func163 [.b true, .call C15, .b true, .fin] (oT c14 (oc C15 (oN c16 on)))
                    · replace h := iq c14 h
                      by_cases c17 : a1 = true
                      · replace h := ip c17 h
                        cases h
                        exact rt func163 [.b false, .fin, .dec 81 true, .fin] (oF c14 (o1 c17 on))
                      · replace h := iq c17 h
                        cases h
                        exact rt func163 [.b false, .fin, .dec 81 false, .fin] (oF c14 (o1 (eqf c17) on))
                exact hd func163 [.b false, .dec 36 false, .dec 41 false, .dec 47 false, .dec 53 false, .b false, .call C8, .b false, .call C10, .fin] (o1 (bnf c1) (oF c2 (oF c3 (oF c4 (oF c5 (o1 (bnf (decide_eq_true c6)) (oc C8 (o1 (eqf c9) (oc C10 on))))))))) (H0 k 0 h)
            · replace h := iq c6 h
              cases h
              exact rt func163 [.b false, .dec 36 false, .dec 41 false, .dec 47 false, .dec 53 false, .b true, .fin] (o1 (bnf c1) (oF c2 (oF c3 (oF c4 (oF c5 (o1 (bnt (decide_eq_false c6)) on))))))
  · replace h := iq c1 h
    by_cases c18 : a0.f5.f0 = 0
    · replace h := ip c18 h
      by_cases c19 : a0.f5.f1 = 0
      · replace h := ip c19 h
        by_cases c20 : (a0.f5.f2.length : Int) = 0
        · replace h := ip c20 h
          cases h
          exact rt func163 [.b true, .dec 16 true, .dec 21 true, .dec 27 true, .fin] (oN c1 (oT c18 (oT c19 (oT c20 on))))
        · replace h := iq c20 h
          cases h
          exact rt func163 [.b true, .dec 16 true, .dec 21 true, .dec 27 false, .fin] (oN c1 (oT c18 (oT c19 (oF c20 on))))
      · replace h := iq c19 h
        cases h
        exact rt func163 [.b true, .dec 16 true, .dec 21 false, .fin] (oN c1 (oT c18 (oF c19 on)))
    · replace h := iq c18 h
      cases h
      exact rt func163 [.b true, .dec 16 false, .fin] (oN c1 (oF c18 on))

/-! ### impl_JobsOk: function 93 -/
def impl_JobsOk.f (k : Nat) (a0 : S48) : Option Bool := (impl_jobsOk.f k a0 false).bind fun t1 => some t1
theorem impl_JobsOk.go : Callable prog 93 := ⟨_, func93, by kernel_rfl, rfl⟩
theorem impl_JobsOk.ok (k : Nat) (a0 : S48) (r : Bool) (h : impl_JobsOk.f k a0 = some r) : VCalls prog 93 [.agg (e48 a0)] [.c (.p (.sc (.bool r)))] := by
  unfold impl_JobsOk.f at h
  refine VCalls.of (fn := f93) (N := 5) func93 rfl rfl (fun w0 => ?_)
  obtain ⟨t1, g1, h⟩ := bindN h
  let C1 := mkCon (impl_jobsOk.ok k a0 false t1 g1) impl_jobsOk.go
  cases h
  exact rt func93 [.call C1, .fin] (oc C1 on)

/-! ### impl_areFree_1: function 164 -/
def impl_areFree_1.f (a0 : Int) (a1 : S38) : Option Bool := (impl_isFree.f a1 a0).bind fun t1 => some (!t1)
theorem impl_areFree_1.go : Callable prog 164 := ⟨_, func164, by kernel_rfl, rfl⟩
theorem impl_areFree_1.ok (a0 : Int) (a1 : S38) (r : Bool) (h : impl_areFree_1.f a0 a1 = some r) : VCalls prog 164 [.c (iI a0), .ptr [.sc (.int .i64 a1.f0), .sc (.int .i64 a1.f1), .sc (.string a1.f2)]] [.c (.p (.sc (.bool r)))] := by
  unfold impl_areFree_1.f at h
  refine VCalls.of (fn := f164) (N := 8) func164 rfl rfl (fun w0 => ?_)
  obtain ⟨t1, g1, h⟩ := bindN h
  let C1 := mkCon (impl_isFree.ok a1 a0 t1 g1) impl_isFree.go
  cases h
  exact rt func164 [.call C1, .fin] (oc C1 on)

/-! ### impl_areFree: function 94 -/
def impl_areFree.f (k : Nat) (a0 : S38) (a1 : List Int) : Option Bool := (impl_GridOk.f k a0).bind fun t1 => if t1 = true then ((slices_ContainsFunc_int_int_3.f k a1 (fun x3 => impl_areFree_1.f x3 a0)).bind fun t2 => some (!t2)) else (some false)
theorem impl_areFree.go : Callable prog 94 := ⟨_, func94, by kernel_rfl, rfl⟩
theorem impl_areFree.ok (k : Nat) (a0 : S38) (a1 : List Int) (r : Bool) (h : impl_areFree.f k a0 a1 = some r) : VCalls prog 94 [.agg (e38 a0), .c (R 1 (eI .i64) 0 a1)] [.c (.p (.sc (.bool r)))] := by
  unfold impl_areFree.f at h
  refine VCalls.of (fn := f94) (N := 13) func94 rfl rfl (fun w0 => ?_)
  obtain ⟨t1, g1, h⟩ := bindN h
  let C1 := mkCon (impl_GridOk.ok k a0 t1 g1) impl_GridOk.go
  by_cases c2 : t1 = true
  · replace h := ip c2 h
    obtain ⟨t2, g4, h⟩ := bindN h
    let C4 := mkCon (slices_ContainsFunc_int_int_3.ok k a1 (fun x3 => impl_areFree_1.f x3 a0) 164 (iI a0.f0) (iI a0.f1) (.sc (.string a0.f2)) (fun x3 r h => impl_areFree_1.ok x3 a0 r h) impl_areFree_1.go t2 g4) slices_ContainsFunc_int_int_3.go
    cases h
    exact rt func94 [.call C1, .dec 7 true, .call C4, .fin] (oc C1 (o1 c2 (oc C4 on)))
  · replace h := iq c2 h
    cases h
    exact rt func94 [.call C1, .dec 7 false, .fin] (oc C1 (o1 (eqf c2) on))

/-! ### impl_isAscending: function 95 -/
def impl_isAscending.h0T (a0 : List Int) (v1 : Int) : List (Nat × AV) := [(0, .t (.c (.p false (R 1 (eI .i64) 0 a0)))), (3, .t (.c (.p true (iI v1))))]
def impl_isAscending.h0H (a0 : List Int) (v1 : Int) : List (Nat × Content) := []
def impl_isAscending.l0 : Nat → List Int → Int → Option Bool
  | 0, _, _ => none
  | kq + 1, a0, v1 => if v1 < (a0.length : Int) then (if 0 ≤ (w64 (v1 - 1)) then (if (w64 (v1 - 1)) < (a0.length : Int) then (if 0 ≤ v1 then (if (rdD 0 a0 v1) ≤ (rdD 0 a0 (w64 (v1 - 1))) then (some false) else (impl_isAscending.l0 kq a0 (w64 (v1 + 1)))) else none) else none) else none) else (some true)
def impl_isAscending.f (k : Nat) (a0 : List Int) : Option Bool := impl_isAscending.l0 k a0 1
theorem impl_isAscending.go : Callable prog 95 := ⟨_, func95, by kernel_rfl, rfl⟩
theorem impl_isAscending.ok (k : Nat) (a0 : List Int) (r : Bool) (h : impl_isAscending.f k a0 = some r) : VCalls prog 95 [.c (R 1 (eI .i64) 0 a0)] [.c (.p (.sc (.bool r)))] := by
  unfold impl_isAscending.f at h
  refine VCalls.of (fn := f95) (N := 20) func95 rfl rfl (fun w0 => ?_)
  have H0 : ∀ (kq : Nat) (v1 : Int), impl_isAscending.l0 kq a0 v1 = some r → AG prog 95 20 [.c (.p (.sc (.bool r)))] w0 (headStk (codeOf f95) 0) (mkFS (impl_isAscending.h0T a0 v1) (impl_isAscending.h0H a0 v1)) := by
    intro kq
    induction kq with
    | zero => intro v1 h; cases h
    | succ kq ih =>
      intro v1 h
      rw [impl_isAscending.l0] at h
      by_cases c5 : v1 < (a0.length : Int)
      · replace h := ip c5 h
        obtain ⟨c6, h⟩ := ifN h
        obtain ⟨c7, h⟩ := ifN h
        obtain ⟨c8, h⟩ := ifN h
        by_cases c9 : (rdD 0 a0 v1) ≤ (rdD 0 a0 (w64 (v1 - 1)))
        · replace h := ip c9 h
          cases h
          exact rt func95 [.b true, .b true, .fin] (oT c5 (o1 c6 (o1 c7 (o1 c8 (o1 c5 (oT c9 on))))))
        · replace h := iq c9 h
          exact hd func95 [.b true, .b false, .fin] (oT c5 (o1 c6 (o1 c7 (o1 c8 (o1 c5 (oF c9 on)))))) (ih (w64 (v1 + 1)) h)
      · replace h := iq c5 h
        cases h
        exact rt func95 [.b false, .fin, .fin] (oF c5 on)
  exact hd func95 [.fin] on (H0 k 1 h)

/-! ### impl_CellsUsed: function 165 -/
def impl_CellsUsed.h0T (a0 : List S72) (v3 : Int) (v2 : List Int) : List (Nat × AV) := [(3, .t (.c (.h 320192))), (6, .t (.c (.p false (R 1 e72 z72 a0)))), (7, .t (.c (.p true (.sc (.int .i64 (a0.length : Int)))))), (8, .t (.c (.p true (iI v3))))]
def impl_CellsUsed.h0H (a0 : List S72) (v3 : Int) (v2 : List Int) : List (Nat × Content) := [(320192, .row 3 1 v2.length (fun j => (eI .i64) (v2.getD j 0)) true)]
def impl_CellsUsed.l0 : Nat → List S72 → List Int → Int → Option (List Int)
  | 0, _, _, _ => none
  | kq + 1, a0, v2, v3 => if v3 < (a0.length : Int) then (if 0 ≤ v3 then (if (v2.length + ((rdD z72 a0 v3).f0).length) * 8 ≤ 140737488355328 then (impl_CellsUsed.l0 kq a0 (v2 ++ (rdD z72 a0 v3).f0) (w64 (v3 + 1))) else none) else none) else ((AvOrd.impl_ordered.f v2).bind fun t4 => some t4)
def impl_CellsUsed.f (k : Nat) (a0 : List S72) : Option (List Int) := impl_CellsUsed.l0 k a0 ([] : List Int) 0
theorem impl_CellsUsed.go : Callable prog 165 := ⟨_, func165, by kernel_rfl, rfl⟩
theorem impl_CellsUsed.ok (k : Nat) (a0 : List S72) (r : (List Int)) (h : impl_CellsUsed.f k a0 = some r) : VCalls prog 165 [.c (R 1 e72 z72 a0)] [.c (.own 3 1 r.length (fun j => (eI .i64) (r.getD j 0)))] := by
  unfold impl_CellsUsed.f at h
  refine VCalls.of (fn := f165) (N := 19) func165 rfl rfl (fun w0 => ?_)
  have H0 : ∀ (kq : Nat) (v2 : List Int) (v3 : Int), impl_CellsUsed.l0 kq a0 v2 v3 = some r → AG prog 165 19 [.c (.own 3 1 r.length (fun j => (eI .i64) (r.getD j 0)))] w0 (headStk (codeOf f165) 0) (mkFS (impl_CellsUsed.h0T a0 v3 v2) (impl_CellsUsed.h0H a0 v3 v2)) := by
    intro kq
    induction kq with
    | zero => intro v2 v3 h; cases h
    | succ kq ih =>
      intro v2 v3 h
      rw [impl_CellsUsed.l0] at h
      by_cases c8 : v3 < (a0.length : Int)
      · replace h := ip c8 h
        obtain ⟨c9, h⟩ := ifN h
        obtain ⟨c10, h⟩ := ifN h
        exact hd func165 [.b true, .aft 15, orow 320192 (eI .i64) 0 (v2 ++ (rdD z72 a0 v3).f0), .reg 6, .flat 320192, .fin] (oT c8 (o1 c9 (o1 c8 (o1 c10 (o1 (GE.app (e := (eI .i64)) (d := 0) v2 ((rdD z72 a0 v3).f0) rfl (fun _ _ => CE.refl _) rfl) (o1 (SC.of (e := (eI .i64)) (d := 0) (v2 ++ (rdD z72 a0 v3).f0) (by intro x; rfl)) on)))))) (ih (v2 ++ (rdD z72 a0 v3).f0) (w64 (v3 + 1)) h)
      · replace h := iq c8 h
        obtain ⟨t4, g11, h⟩ := bindN h
        let C11 := AvOrd.impl_ordered.con v2 t4 g11
        cases h
        exact rt func165 [.b false, .fin, .callM C11, .aft 18, orow 320192 (eI .i64) 0 r, .fin] (oF c8 (o1 (rfl : C11.f = C11.f) (o1 (rfl : C11.e = C11.e) (o1 (AvOrd.sc_in v2) (o1 (AvOrd.sc_out r) on)))))
  exact hd func165 [.fin, .nil 3 320192 3 1, orow 320192 (eI .i64) 0 ([] : List Int)] (o1 (GE.nil (eI .i64) 0) on) (H0 k ([] : List Int) 0 h)

/-! ### impl_Footprint: function 96 -/
def impl_Footprint.f (k : Nat) (a0 : S48) : Option (List Int) := if a0.f4 = true then ((impl_CellsUsed.f k a0.f5.f2).bind fun t1 => some t1) else (some ([] : List Int))
theorem impl_Footprint.go : Callable prog 96 := ⟨_, func96, by kernel_rfl, rfl⟩
theorem impl_Footprint.ok (k : Nat) (a0 : S48) (r : (List Int)) (h : impl_Footprint.f k a0 = some r) : VCalls prog 96 [.agg (e48 a0)] [.c (.own 3 1 r.length (fun j => (eI .i64) (r.getD j 0)))] := by
  unfold impl_Footprint.f at h
  refine VCalls.of (fn := f96) (N := 10) func96 rfl rfl (fun w0 => ?_)
  by_cases c1 : a0.f4 = true
  · replace h := ip c1 h
    obtain ⟨t1, g2, h⟩ := bindN h
    let C2 := mkCon (impl_CellsUsed.ok k a0.f5.f2 t1 g2) impl_CellsUsed.go
    cases h
    exact rt func96 [.b false, .call C2, .fin] (o1 (bnf c1) (oc C2 on))
  · replace h := iq c1 h
    cases h
    exact rt func96 [.b true, .fin, .nil 2 384128 3 1, orow 384128 (eI .i64) 0 ([] : List Int)] (oN c1 (o1 (GE.nil (eI .i64) 0) on))

/-! ### impl_FreeCells: function 180 -/
def impl_FreeCells.h0T (a0 : S38) (v7 : Nat) (v6 : List Int) : List (Nat × AV) := [(1, .ptr 64 0), (3, .t (.c (.h 320192))), (10, .ptr 640 0)]
def impl_FreeCells.h0H (a0 : S38) (v7 : Nat) (v6 : List Int) : List (Nat × Content) := [(64, .box 38 [.p false (iI a0.f0), .p false (iI a0.f1), .p false (.sc (.string a0.f2))]), (640, .iter a0.f2 v7), (320192, .row 3 1 v6.length (fun j => (eI .i64) (v6.getD j 0)) true)]
def impl_FreeCells.l0 : Nat → S38 → List Int → Nat → Option (List Int)
  | 0, _, _, _ => none
  | kq + 1, a0, v6, v7 => if v7 < a0.f2.size then ((impl_isFree.f a0 ((v7 : Nat) : Int)).bind fun t8 => if t8 = true then (if (v6.length + 1) * 8 ≤ 140737488355328 then (impl_FreeCells.l0 kq a0 (v6 ++ [((v7 : Nat) : Int)]) (v7 + (Utf8.decode a0.f2 v7).2)) else none) else (impl_FreeCells.l0 kq a0 v6 (v7 + (Utf8.decode a0.f2 v7).2))) else (some v6)
def impl_FreeCells.f (k : Nat) (a0 : S38) : Option (List Int) := (impl_GridOk.f k a0).bind fun t1 => if t1 = true then (impl_FreeCells.l0 k a0 ([] : List Int) 0) else (some ([] : List Int))
theorem impl_FreeCells.go : Callable prog 180 := ⟨_, func180, by kernel_rfl, rfl⟩
theorem impl_FreeCells.ok (k : Nat) (a0 : S38) (r : (List Int)) (h : impl_FreeCells.f k a0 = some r) : VCalls prog 180 [.agg (e38 a0)] [.c (.own 3 1 r.length (fun j => (eI .i64) (r.getD j 0)))] := by
  unfold impl_FreeCells.f at h
  refine VCalls.of (fn := f180) (N := 22) func180 rfl rfl (fun w0 => ?_)
  obtain ⟨t1, g1, h⟩ := bindN h
  let C1 := mkCon (impl_GridOk.ok k a0 t1 g1) impl_GridOk.go
  by_cases c2 : t1 = true
  · replace h := ip c2 h
    have H0 : ∀ (kq : Nat) (v6 : List Int) (v7 : Nat), impl_FreeCells.l0 kq a0 v6 v7 = some r → AG prog 180 22 [.c (.own 3 1 r.length (fun j => (eI .i64) (r.getD j 0)))] w0 (headStk (codeOf f180) 0) (mkFS (impl_FreeCells.h0T a0 v7 v6) (impl_FreeCells.h0H a0 v7 v6)) := by
      intro kq
      induction kq with
      | zero => intro v6 v7 h; cases h
      | succ kq ih =>
        intro v6 v7 h
        rw [impl_FreeCells.l0] at h
        by_cases c15 : v7 < a0.f2.size
        · replace h := ip c15 h
          obtain ⟨t8, g16, h⟩ := bindN h
          let C16 := mkCon (impl_isFree.ok a0 ((v7 : Nat) : Int) t8 g16) impl_isFree.go
          by_cases c17 : t8 = true
          · replace h := ip c17 h
            obtain ⟨c18, h⟩ := ifN h
            exact hd func180 [.dec 11 true, .b true, .call C16, .b true, rowe 19 (eI .i64) 0 ([((v7 : Nat) : Int)]), .aft 20, orow 320192 (eI .i64) 0 (v6 ++ [((v7 : Nat) : Int)]), .fin] (o1 c15 (oR (oc C16 (o1 c17 (o1 (GE.lit 1 (eI .i64) 0 [((v7 : Nat) : Int)] (by intro x; rfl)) (o1 c18 (o1 (GE.app (e := (eI .i64)) (d := 0) v6 ([((v7 : Nat) : Int)]) rfl (fun _ _ => CE.refl _) rfl) on))))))) (ih (v6 ++ [((v7 : Nat) : Int)]) (v7 + (Utf8.decode a0.f2 v7).2) h)
          · replace h := iq c17 h
            exact hd func180 [.dec 11 true, .b true, .call C16, .b false, .fin] (o1 c15 (oR (oc C16 (o1 (eqf c17) on)))) (ih v6 (v7 + (Utf8.decode a0.f2 v7).2) h)
        · replace h := iq c15 h
          cases h
          exact rt func180 [.dec 11 false, .b false, .fin, .fin] (o1 c15 (o1 (rfl : false = false) on))
    exact hd func180 [.call C1, .b false, .fin, .nil 3 320192 3 1, orow 320192 (eI .i64) 0 ([] : List Int)] (oc C1 (o1 (bnf c2) (o1 (GE.nil (eI .i64) 0) on))) (H0 k ([] : List Int) 0 h)
  · replace h := iq c2 h
    cases h
    exact rt func180 [.call C1, .b true, .fin, .nil 2 384128 3 1, orow 384128 (eI .i64) 0 ([] : List Int)] (oc C1 (oN c2 (o1 (GE.nil (eI .i64) 0) on)))

/-! ### impl_Walled: function 179 -/
def impl_Walled.h0T (a1 : List Int) (a0 : S38) (v6 : Int) (v5 : List Int) : List (Nat × AV) := [(1, .t (.c (.p false (R 1 (eI .i64) 0 a1)))), (2, .ptr 128 0), (4, .ptr 256 0), (5, .t (.c (.h 832))), (15, .t (.c (.p true (.sc (.int .i64 ((bytesOf a0.f2).length : Int)))))), (16, .t (.c (.p true (iI v6))))]
def impl_Walled.h0H (a1 : List Int) (a0 : S38) (v6 : Int) (v5 : List Int) : List (Nat × Content) := [(128, .box 38 [.p false (iI a0.f0), .p false (iI a0.f1), .p false (.sc (.string a0.f2))]), (256, .box 38 [.p true (iI 0), .p true (iI 0), .p true (.sc (.string (⟨#[]⟩ : ByteArray)))]), (832, .row 1099511627781 1 v5.length (fun j => (eI .u8) (v5.getD j 0)) true)]
def impl_Walled.l0 : Nat → S38 → List Int → List Int → Int → Option S38
  | 0, _, _, _, _ => none
  | kq + 1, a0, a1, v5, v6 => if v6 < ((bytesOf a0.f2).length : Int) then ((slices_Contains_int_int.f kq a1 v6).bind fun t7 => if t7 = true then (if 0 ≤ v6 then (if v6 < (v5.length : Int) then (impl_Walled.l0 kq a0 a1 (v5.set v6.toNat 35) (w64 (v6 + 1))) else none) else none) else (impl_Walled.l0 kq a0 a1 v5 (w64 (v6 + 1)))) else (if isBytes v5 = true then (some (⟨a0.f0, a0.f1, (strOf v5)⟩ : S38)) else none)
def impl_Walled.f (k : Nat) (a0 : S38) (a1 : List Int) : Option S38 := (impl_GridOk.f k a0).bind fun t1 => if t1 = true then (if a0.f2.size ≤ maxLen then (impl_Walled.l0 k a0 a1 (bytesOf a0.f2) 0) else none) else (some a0)
theorem impl_Walled.go : Callable prog 179 := ⟨_, func179, by kernel_rfl, rfl⟩
theorem impl_Walled.ok (k : Nat) (a0 : S38) (a1 : List Int) (r : S38) (h : impl_Walled.f k a0 a1 = some r) : VCalls prog 179 [.agg (e38 a0), .c (R 1 (eI .i64) 0 a1)] [.agg (r38 r)] := by
  unfold impl_Walled.f at h
  refine VCalls.of (fn := f179) (N := 33) func179 rfl rfl (fun w0 => ?_)
  obtain ⟨t1, g1, h⟩ := bindN h
  let C1 := mkCon (impl_GridOk.ok k a0 t1 g1) impl_GridOk.go
  by_cases c2 : t1 = true
  · replace h := ip c2 h
    obtain ⟨c3, h⟩ := ifN h
    have H0 : ∀ (kq : Nat) (v5 : List Int) (v6 : Int), impl_Walled.l0 kq a0 a1 v5 v6 = some r → AG prog 179 33 [.agg (r38 r)] w0 (headStk (codeOf f179) 0) (mkFS (impl_Walled.h0T a1 a0 v6 v5) (impl_Walled.h0H a1 a0 v6 v5)) := by
      intro kq
      induction kq with
      | zero => intro v5 v6 h; cases h
      | succ kq ih =>
        intro v5 v6 h
        rw [impl_Walled.l0] at h
        by_cases c11 : v6 < ((bytesOf a0.f2).length : Int)
        · replace h := ip c11 h
          obtain ⟨t7, g12, h⟩ := bindN h
          let C12 := mkCon (slices_Contains_int_int.ok kq a1 v6 t7 g12) slices_Contains_int_int.go
          by_cases c13 : t7 = true
          · replace h := ip c13 h
            obtain ⟨c14, h⟩ := ifN h
            obtain ⟨c15, h⟩ := ifN h
            exact hd func179 [.b true, .call C12, .b true, .aft 999999, orow 832 (eI .u8) 0 (v5.set v6.toNat 35), .fin] (oT c11 (oc C12 (o1 c13 (o1 c14 (o1 c15 (o1 (GE.set (e := (eI .u8)) (d := 0) v5 v6.toNat 35 (lt_toNat c14 c15) rfl) on)))))) (ih (v5.set v6.toNat 35) (w64 (v6 + 1)) h)
          · replace h := iq c13 h
            exact hd func179 [.b true, .call C12, .b false, .fin] (oT c11 (oc C12 (o1 (eqf c13) on))) (ih v5 (w64 (v6 + 1)) h)
        · replace h := iq c11 h
          obtain ⟨c16, h⟩ := ifN h
          cases h
          exact rt func179 [.b false, .fin, .cst 31 (.sc (.string (strOf v5))), .fin] (oF c11 (o1 (ByOk.of c16) (o1 (VE.str v5) on)))
    exact hd func179 [.call C1, .b false, rowe 13 (eI .u8) 0 (bytesOf a0.f2), .fin] (oc C1 (o1 (bnf c2) (o1 c3 (o1 (GE.bytes a0.f2) on)))) (H0 k (bytesOf a0.f2) 0 h)
  · replace h := iq c2 h
    cases h
    exact rt func179 [.call C1, .b true, .fin] (oc C1 (oN c2 on))

/-! ### impl_onlyCells: function 98 -/
def impl_onlyCells.f (k : Nat) (a0 : S38) (a1 : List Int) : Option S38 := (impl_FreeCells.f k a0).bind fun v => (AvDel.del.f a1 v).bind fun u => impl_Walled.f k a0 u
theorem impl_onlyCells.go : Callable prog 98 := ⟨_, func98, by kernel_rfl, rfl⟩
theorem impl_onlyCells.ok (k : Nat) (a0 : S38) (a1 : List Int) (r : S38) (h : impl_onlyCells.f k a0 a1 = some r) : VCalls prog 98 [.agg (e38 a0), .c (R 1 (eI .i64) 0 a1)] [.agg (r38 r)] := by
  unfold impl_onlyCells.f at h
  refine VCalls.of (fn := f98) (N := 11) func98 rfl rfl (fun w0 => ?_)
  obtain ⟨v, g1, h⟩ := bindN h
  obtain ⟨u, g2, h⟩ := bindN h
  let C1 := mkCon (impl_FreeCells.ok k a0 v g1) impl_FreeCells.go
  let C2 := AvDel.del.con a1 v u g2
  let C3 := mkCon (impl_Walled.ok k a0 u r h) impl_Walled.go
  have b2 := sc_ C1
  have b4 := o1 (rfl : C2.f = C2.f) (o1 (rfl : C2.e = C2.e) (o1 (AvOrd.sc_in v) (o1 (rfl : 181 = 181) (o1 (VE.refl (rowI .i64 a1)) on))))
  have b5 := o1 (rfl : C3.f = C3.f) (o1 (VE.refl (iI a0.f0)) (o1 (VE.refl (iI a0.f1)) (o1 (VE.refl (.sc (.string a0.f2))) (o1 (VE.row (z := 1) (AvOrd.sc_out u)) on))))
  have lf := selfS_ok [(4, .ptr 256 0)] [(256, .box 38 [.p true (iI r.f0), .p true (iI r.f1), .p true (.sc (.string r.f2))])]
  have n1 := (oa lf on)
  have n2 := (oa (oa b5 n1) on)
  have n3 := (oa n2 on)
  have n4 := (oa (oa b4 n2) on)
  have n5 := (oa n4 (oa (oa b4 n3) on))
  have n6 := (oa (oa b2 n4) on)
  have n7 := (oa n6 (oa (oa b2 n5) on))
  have n8 := (oa n6 on)
  have n9 := (oa n8 (oa n7 on))
  have n10 := (oa n4 on)
  have n11 := (oa n10 (oa n5 on))
  have n12 := (oa (oa b2 n10) (oa n6 on))
  have n13 := (oa n12 (oa (oa b2 n11) (oa n7 on)))
  have n14 := (oa n12 (oa n8 on))
  have n15 := (oa n14 (oa n13 (oa n9 on)))
  exact rt func98 [.anyR 6 [(4, .ptr 256 0)] [(256, .box 38 [.p true (iI r.f0), .p true (iI r.f1), .p true (.sc (.string r.f2))])], .reg 2, .call C1, .reg 4, .callM C2, .reg 5, .call C3, .fin] (oa n15 on)


/-! ### impl_firstCells: function 99 -/
def impl_firstCells.h0T (a0 : List S72) (v3 : Int) (v2 : List Int) : List (Nat × AV) := [(3, .t (.c (.h 320192))), (6, .t (.c (.p false (R 1 e72 z72 a0)))), (7, .t (.c (.p true (.sc (.int .i64 (a0.length : Int)))))), (8, .t (.c (.p true (iI v3))))]
def impl_firstCells.h0H (a0 : List S72) (v3 : Int) (v2 : List Int) : List (Nat × Content) := [(320192, .row 3 1 v2.length (fun j => (eI .i64) (v2.getD j 0)) true)]
def impl_firstCells.l0 : Nat → List S72 → List Int → Int → Option (List Int)
  | 0, _, _, _ => none
  | kq + 1, a0, v2, v3 => if v3 < (a0.length : Int) then (if 0 ≤ v3 then (if 0 < (((rdD z72 a0 v3).f0).length : Int) then (if (v2.length + 1) * 8 ≤ 140737488355328 then (impl_firstCells.l0 kq a0 (v2 ++ [(rdD 0 ((rdD z72 a0 v3).f0) 0)]) (w64 (v3 + 1))) else none) else none) else none) else (some v2)
def impl_firstCells.f (k : Nat) (a0 : List S72) : Option (List Int) := impl_firstCells.l0 k a0 ([] : List Int) 0
theorem impl_firstCells.go : Callable prog 99 := ⟨_, func99, by kernel_rfl, rfl⟩
theorem impl_firstCells.ok (k : Nat) (a0 : List S72) (r : (List Int)) (h : impl_firstCells.f k a0 = some r) : VCalls prog 99 [.c (R 1 e72 z72 a0)] [.c (.own 3 1 r.length (fun j => (eI .i64) (r.getD j 0)))] := by
  unfold impl_firstCells.f at h
  refine VCalls.of (fn := f99) (N := 21) func99 rfl rfl (fun w0 => ?_)
  have H0 : ∀ (kq : Nat) (v2 : List Int) (v3 : Int), impl_firstCells.l0 kq a0 v2 v3 = some r → AG prog 99 21 [.c (.own 3 1 r.length (fun j => (eI .i64) (r.getD j 0)))] w0 (headStk (codeOf f99) 0) (mkFS (impl_firstCells.h0T a0 v3 v2) (impl_firstCells.h0H a0 v3 v2)) := by
    intro kq
    induction kq with
    | zero => intro v2 v3 h; cases h
    | succ kq ih =>
      intro v2 v3 h
      rw [impl_firstCells.l0] at h
      by_cases c11 : v3 < (a0.length : Int)
      · replace h := ip c11 h
        obtain ⟨c12, h⟩ := ifN h
        obtain ⟨c13, h⟩ := ifN h
        obtain ⟨c14, h⟩ := ifN h
        exact hd func99 [.b true, rowe 17 (eI .i64) 0 ([(rdD 0 ((rdD z72 a0 v3).f0) 0)]), .aft 18, orow 320192 (eI .i64) 0 (v2 ++ [(rdD 0 ((rdD z72 a0 v3).f0) 0)]), .fin] (oT c11 (o1 c12 (o1 c11 (o1 (by decide : (0 : Int) ≤ 0) (o1 c13 (o1 (GE.lit 1 (eI .i64) 0 [(rdD 0 ((rdD z72 a0 v3).f0) 0)] (by intro x; rfl)) (o1 c14 (o1 (GE.app (e := (eI .i64)) (d := 0) v2 ([(rdD 0 ((rdD z72 a0 v3).f0) 0)]) rfl (fun _ _ => CE.refl _) rfl) on)))))))) (ih (v2 ++ [(rdD 0 ((rdD z72 a0 v3).f0) 0)]) (w64 (v3 + 1)) h)
      · replace h := iq c11 h
        cases h
        exact rt func99 [.b false, .fin, .fin] (oF c11 on)
  exact hd func99 [.fin, .nil 3 320192 3 1, orow 320192 (eI .i64) 0 ([] : List Int)] (o1 (GE.nil (eI .i64) 0) on) (H0 k ([] : List Int) 0 h)

/-! ### impl_EndsOf: function 166 -/
def impl_EndsOf.h0T (a0 : List S72) (v3 : Int) (v2 : List Int) : List (Nat × AV) := [(3, .t (.c (.h 320192))), (6, .t (.c (.p false (R 1 e72 z72 a0)))), (7, .t (.c (.p true (.sc (.int .i64 (a0.length : Int)))))), (8, .t (.c (.p true (iI v3))))]
def impl_EndsOf.h0H (a0 : List S72) (v3 : Int) (v2 : List Int) : List (Nat × Content) := [(320192, .row 3 1 v2.length (fun j => (eI .i64) (v2.getD j 0)) true)]
def impl_EndsOf.l0 : Nat → List S72 → List Int → Int → Option (List Int)
  | 0, _, _, _ => none
  | kq + 1, a0, v2, v3 => if v3 < (a0.length : Int) then (if 0 ≤ v3 then (if 0 < (((rdD z72 a0 v3).f0).length : Int) then (if 0 ≤ (w64 ((((rdD z72 a0 v3).f0).length : Int) - 1)) then (if (w64 ((((rdD z72 a0 v3).f0).length : Int) - 1)) < (((rdD z72 a0 v3).f0).length : Int) then (if (v2.length + 1) * 8 ≤ 140737488355328 then (impl_EndsOf.l0 kq a0 (v2 ++ [(rdD 0 ((rdD z72 a0 v3).f0) (w64 ((((rdD z72 a0 v3).f0).length : Int) - 1)))]) (w64 (v3 + 1))) else none) else none) else none) else (impl_EndsOf.l0 kq a0 v2 (w64 (v3 + 1)))) else none) else ((AvOrd.impl_ordered.f v2).bind fun t4 => some t4)
def impl_EndsOf.f (k : Nat) (a0 : List S72) : Option (List Int) := impl_EndsOf.l0 k a0 ([] : List Int) 0
theorem impl_EndsOf.go : Callable prog 166 := ⟨_, func166, by kernel_rfl, rfl⟩
theorem impl_EndsOf.ok (k : Nat) (a0 : List S72) (r : (List Int)) (h : impl_EndsOf.f k a0 = some r) : VCalls prog 166 [.c (R 1 e72 z72 a0)] [.c (.own 3 1 r.length (fun j => (eI .i64) (r.getD j 0)))] := by
  unfold impl_EndsOf.f at h
  refine VCalls.of (fn := f166) (N := 30) func166 rfl rfl (fun w0 => ?_)
  have H0 : ∀ (kq : Nat) (v2 : List Int) (v3 : Int), impl_EndsOf.l0 kq a0 v2 v3 = some r → AG prog 166 30 [.c (.own 3 1 r.length (fun j => (eI .i64) (r.getD j 0)))] w0 (headStk (codeOf f166) 0) (mkFS (impl_EndsOf.h0T a0 v3 v2) (impl_EndsOf.h0H a0 v3 v2)) := by
    intro kq
    induction kq with
    | zero => intro v2 v3 h; cases h
    | succ kq ih =>
      intro v2 v3 h
      rw [impl_EndsOf.l0] at h
      by_cases c17 : v3 < (a0.length : Int)
      · replace h := ip c17 h
        obtain ⟨c18, h⟩ := ifN h
        by_cases c19 : 0 < (((rdD z72 a0 v3).f0).length : Int)
        · replace h := ip c19 h
          obtain ⟨c20, h⟩ := ifN h
          obtain ⟨c21, h⟩ := ifN h
          obtain ⟨c22, h⟩ := ifN h
          exact hd func166 [.b true, .b true, rowe 25 (eI .i64) 0 ([(rdD 0 ((rdD z72 a0 v3).f0) (w64 ((((rdD z72 a0 v3).f0).length : Int) - 1)))]), .aft 26, orow 320192 (eI .i64) 0 (v2 ++ [(rdD 0 ((rdD z72 a0 v3).f0) (w64 ((((rdD z72 a0 v3).f0).length : Int) - 1)))]), .fin] (oT c17 (o1 c18 (o1 c17 (oT c19 (o1 c20 (o1 c21 (o1 (GE.lit 1 (eI .i64) 0 [(rdD 0 ((rdD z72 a0 v3).f0) (w64 ((((rdD z72 a0 v3).f0).length : Int) - 1)))] (by intro x; rfl)) (o1 c22 (o1 (GE.app (e := (eI .i64)) (d := 0) v2 ([(rdD 0 ((rdD z72 a0 v3).f0) (w64 ((((rdD z72 a0 v3).f0).length : Int) - 1)))]) rfl (fun _ _ => CE.refl _) rfl) on))))))))) (ih (v2 ++ [(rdD 0 ((rdD z72 a0 v3).f0) (w64 ((((rdD z72 a0 v3).f0).length : Int) - 1)))]) (w64 (v3 + 1)) h)
        · replace h := iq c19 h
          exact hd func166 [.b true, .b false, .fin] (oT c17 (o1 c18 (o1 c17 (oF c19 on)))) (ih v2 (w64 (v3 + 1)) h)
      · replace h := iq c17 h
        obtain ⟨t4, g23, h⟩ := bindN h
        let C23 := AvOrd.impl_ordered.con v2 t4 g23
        cases h
        exact rt func166 [.b false, .fin, .callM C23, .aft 29, orow 320192 (eI .i64) 0 r, .fin] (oF c17 (o1 (rfl : C23.f = C23.f) (o1 (rfl : C23.e = C23.e) (o1 (AvOrd.sc_in v2) (o1 (AvOrd.sc_out r) on)))))
  exact hd func166 [.fin, .nil 3 320192 3 1, orow 320192 (eI .i64) 0 ([] : List Int)] (o1 (GE.nil (eI .i64) 0) on) (H0 k ([] : List Int) 0 h)

/-! ### impl_isAsked: function 212 -/
def impl_isAsked.f (k : Nat) (a0 : S38) (a1 : List Int) (a2 : List Int) : Option Bool := (impl_areFree.f k a0 a1).bind fun t1 => if t1 = true then ((impl_areFree.f k a0 a2).bind fun t2 => if t2 = true then (if (a1.length : Int) < 1 then (some false) else (if 10 < (a1.length : Int) then (some false) else ((impl_isAscending.f k a1).bind fun t3 => if t3 = true then ((impl_isAscending.f k a2).bind fun t4 => if t4 = true then (some (decide ((a2.length : Int) ≤ (a1.length : Int)))) else (some false)) else (some false)))) else (some false)) else (some false)
theorem impl_isAsked.go : Callable prog 212 := ⟨_, func212, by kernel_rfl, rfl⟩
theorem impl_isAsked.ok (k : Nat) (a0 : S38) (a1 : List Int) (a2 : List Int) (r : Bool) (h : impl_isAsked.f k a0 a1 a2 = some r) : VCalls prog 212 [.agg (e38 a0), .c (R 1 (eI .i64) 0 a1), .c (R 1 (eI .i64) 0 a2)] [.c (.p (.sc (.bool r)))] := by
  unfold impl_isAsked.f at h
  refine VCalls.of (fn := f212) (N := 40) func212 rfl rfl (fun w0 => ?_)
  obtain ⟨t1, g1, h⟩ := bindN h
  let C1 := mkCon (impl_areFree.ok k a0 a1 t1 g1) impl_areFree.go
  by_cases c2 : t1 = true
  · replace h := ip c2 h
    obtain ⟨t2, g3, h⟩ := bindN h
    let C3 := mkCon (impl_areFree.ok k a0 a2 t2 g3) impl_areFree.go
    by_cases c4 : t2 = true
    · replace h := ip c4 h
      by_cases c5 : (a1.length : Int) < 1
      · replace h := ip c5 h
        cases h
        exact rt func212 [.call C1, .dec 11 false, .call C3, .dec 17 false, .dec 22 true, .b true, .fin] (oc C1 (o1 (bnf c2) (oc C3 (o1 (bnf c4) (oT c5 (oR on))))))
      · replace h := iq c5 h
        by_cases c6 : 10 < (a1.length : Int)
        · replace h := ip c6 h
          cases h
          exact rt func212 [.call C1, .dec 11 false, .call C3, .dec 17 false, .dec 22 false, .b true, .fin] (oc C1 (o1 (bnf c2) (oc C3 (o1 (bnf c4) (oF c5 (oT c6 on))))))
        · replace h := iq c6 h
          obtain ⟨t3, g7, h⟩ := bindN h
          let C7 := mkCon (impl_isAscending.ok k a1 t3 g7) impl_isAscending.go
          by_cases c8 : t3 = true
          · replace h := ip c8 h
            obtain ⟨t4, g9, h⟩ := bindN h
            let C9 := mkCon (impl_isAscending.ok k a2 t4 g9) impl_isAscending.go
            by_cases c10 : t4 = true
            · replace h := ip c10 h
              cases h
              exact rt func212 [.call C1, .dec 11 false, .call C3, .dec 17 false, .dec 22 false, .b false, .call C7, .dec 29 true, .call C9, .dec 33 true, .fin] (oc C1 (o1 (bnf c2) (oc C3 (o1 (bnf c4) (oF c5 (oF c6 (oc C7 (o1 c8 (oc C9 (o1 c10 on))))))))))
            · replace h := iq c10 h
              cases h
              exact rt func212 [.call C1, .dec 11 false, .call C3, .dec 17 false, .dec 22 false, .b false, .call C7, .dec 29 true, .call C9, .dec 33 false, .fin] (oc C1 (o1 (bnf c2) (oc C3 (o1 (bnf c4) (oF c5 (oF c6 (oc C7 (o1 c8 (oc C9 (o1 (eqf c10) on))))))))))
          · replace h := iq c8 h
            cases h
            exact rt func212 [.call C1, .dec 11 false, .call C3, .dec 17 false, .dec 22 false, .b false, .call C7, .dec 29 false, .fin] (oc C1 (o1 (bnf c2) (oc C3 (o1 (bnf c4) (oF c5 (oF c6 (oc C7 (o1 (eqf c8) on))))))))
    · replace h := iq c4 h
      cases h
      exact rt func212 [.call C1, .dec 11 false, .call C3, .dec 17 true, .b true, .fin] (oc C1 (o1 (bnf c2) (oc C3 (oN c4 (oR on)))))
  · replace h := iq c2 h
    cases h
    exact rt func212 [.call C1, .dec 11 true, .b true, .fin] (oc C1 (oN c2 (oR on)))

/-! ### impl_AskOk: function 167 -/
def impl_AskOk.f (k : Nat) (a0 : S38) (a1 : List Int) (a2 : List Int) (a3 : Int) : Option Bool := (impl_isAsked.f k a0 a1 a2).bind fun t1 => if t1 = true then (if 0 ≤ a3 then (if a3 ≤ 20 then ((impl_FreeCells.f k a0).bind fun t2 => some (decide ((w64 ((t2.length : Int) * (w64 (a3 + 1)))) ≤ 240))) else (some false)) else (some false)) else (some false)
theorem impl_AskOk.go : Callable prog 167 := ⟨_, func167, by kernel_rfl, rfl⟩
theorem impl_AskOk.ok (k : Nat) (a0 : S38) (a1 : List Int) (a2 : List Int) (a3 : Int) (r : Bool) (h : impl_AskOk.f k a0 a1 a2 a3 = some r) : VCalls prog 167 [.agg (e38 a0), .c (R 1 (eI .i64) 0 a1), .c (R 1 (eI .i64) 0 a2), .c (iI a3)] [.c (.p (.sc (.bool r)))] := by
  unfold impl_AskOk.f at h
  refine VCalls.of (fn := f167) (N := 30) func167 rfl rfl (fun w0 => ?_)
  obtain ⟨t1, g1, h⟩ := bindN h
  let C1 := mkCon (impl_isAsked.ok k a0 a1 a2 t1 g1) impl_isAsked.go
  by_cases c2 : t1 = true
  · replace h := ip c2 h
    by_cases c3 : 0 ≤ a3
    · replace h := ip c3 h
      by_cases c4 : a3 ≤ 20
      · replace h := ip c4 h
        obtain ⟨t2, g5, h⟩ := bindN h
        let C5 := mkCon (impl_FreeCells.ok k a0 t2 g5) impl_FreeCells.go
        cases h
        exact rt func167 [.call C1, .dec 13 true, .dec 17 true, .dec 21 true, .call C5, .fin] (oc C1 (o1 c2 (oT c3 (oT c4 (oc C5 on)))))
      · replace h := iq c4 h
        cases h
        exact rt func167 [.call C1, .dec 13 true, .dec 17 true, .dec 21 false, .fin] (oc C1 (o1 c2 (oT c3 (oF c4 on))))
    · replace h := iq c3 h
      cases h
      exact rt func167 [.call C1, .dec 13 true, .dec 17 false, .fin] (oc C1 (o1 c2 (oF c3 on)))
  · replace h := iq c2 h
    cases h
    exact rt func167 [.call C1, .dec 13 false, .fin] (oc C1 (o1 (eqf c2) on))

/-! ### impl_formFault: function 168 -/
def impl_formFault.h0T (a0 : List Int) (a1 : S45) (v1 : Int) : List (Nat × AV) := [(0, .t (.c (.p false (R 1 (eI .i64) 0 a0)))), (3, .ptr 192 0), (14, .t (.c (.p false (R 1 e72 z72 a1.f2)))), (15, .t (.c (.p true (.sc (.int .i64 (a1.f2.length : Int)))))), (16, .t (.c (.p true (iI v1))))]
def impl_formFault.h0H (a0 : List Int) (a1 : S45) (v1 : Int) : List (Nat × Content) := [(192, .box 45 [.p false (iI a1.f0), .p false (iI a1.f1), .p false (R 1 e72 z72 a1.f2)])]
def impl_formFault.l0 : Nat → S45 → List Int → Int → Option Bool
  | 0, _, _, _ => none
  | kq + 1, a1, a0, v1 => if v1 < (a1.f2.length : Int) then (if 0 ≤ v1 then (if (((rdD z72 a1.f2 v1).f0).length : Int) = (w64 (a1.f0 + 1)) then (if 0 < (((rdD z72 a1.f2 v1).f0).length : Int) then (if v1 < (a0.length : Int) then (if (rdD 0 ((rdD z72 a1.f2 v1).f0) 0) = (rdD 0 a0 v1) then (impl_formFault.l0 kq a1 a0 (w64 (v1 + 1))) else (some true)) else none) else none) else (some true)) else none) else (some false)
def impl_formFault.f (k : Nat) (a0 : List Int) (a1 : S45) : Option Bool := if (a1.f2.length : Int) = (a0.length : Int) then (impl_formFault.l0 k a1 a0 0) else (some true)
theorem impl_formFault.go : Callable prog 168 := ⟨_, func168, by kernel_rfl, rfl⟩
theorem impl_formFault.ok (k : Nat) (a0 : List Int) (a1 : S45) (r : Bool) (h : impl_formFault.f k a0 a1 = some r) : VCalls prog 168 [.c (R 1 (eI .i64) 0 a0), .agg (e45 a1)] [.c (.p (.sc (.bool r)))] := by
  unfold impl_formFault.f at h
  refine VCalls.of (fn := f168) (N := 40) func168 rfl rfl (fun w0 => ?_)
  by_cases c1 : (a1.f2.length : Int) = (a0.length : Int)
  · replace h := ip c1 h
    have H0 : ∀ (kq : Nat) (v1 : Int), impl_formFault.l0 kq a1 a0 v1 = some r → AG prog 168 40 [.c (.p (.sc (.bool r)))] w0 (headStk (codeOf f168) 0) (mkFS (impl_formFault.h0T a0 a1 v1) (impl_formFault.h0H a0 a1 v1)) := by
      intro kq
      induction kq with
      | zero => intro v1 h; cases h
      | succ kq ih =>
        intro v1 h
        rw [impl_formFault.l0] at h
        by_cases c7 : v1 < (a1.f2.length : Int)
        · replace h := ip c7 h
          obtain ⟨c8, h⟩ := ifN h
          by_cases c9 : (((rdD z72 a1.f2 v1).f0).length : Int) = (w64 (a1.f0 + 1))
          · replace h := ip c9 h
            obtain ⟨c10, h⟩ := ifN h
            obtain ⟨c11, h⟩ := ifN h
            by_cases c12 : (rdD 0 ((rdD z72 a1.f2 v1).f0) 0) = (rdD 0 a0 v1)
            · replace h := ip c12 h
              exact hd func168 [.b true, .dec 28 false, .b false, .fin] (oT c7 (o1 c8 (o1 c7 (o1 (bnf (decide_eq_true c9)) (o1 (by decide : (0 : Int) ≤ 0) (o1 c10 (o1 c8 (o1 c11 (o1 (bnf (decide_eq_true c12)) on))))))))) (ih (w64 (v1 + 1)) h)
            · replace h := iq c12 h
              cases h
              exact rt func168 [.b true, .dec 28 false, .b true, .fin] (oT c7 (o1 c8 (o1 c7 (o1 (bnf (decide_eq_true c9)) (o1 (by decide : (0 : Int) ≤ 0) (o1 c10 (o1 c8 (o1 c11 (o1 (bnt (decide_eq_false c12)) on)))))))))
          · replace h := iq c9 h
            cases h
            exact rt func168 [.b true, .dec 28 true, .b true, .fin] (oT c7 (o1 c8 (o1 c7 (o1 (bnt (decide_eq_false c9)) (oR on)))))
        · replace h := iq c7 h
          cases h
          exact rt func168 [.b false, .fin, .fin] (oF c7 on)
    exact hd func168 [.b false, .fin] (o1 (bnf (decide_eq_true c1)) on) (H0 k 0 h)
  · replace h := iq c1 h
    cases h
    exact rt func168 [.b true, .fin] (o1 (bnt (decide_eq_false c1)) on)

/-! ### impl_stepFault: function 169 -/
def impl_stepFault.h1T (a1 : List S72) (v7 : Int) (v9 : Int) (a0 : S38) : List (Nat × AV) := [(2, .ptr 128 0), (6, .ptr 384 0), (9, .t (.c (.p false (R 1 e72 z72 a1)))), (10, .t (.c (.p true (.sc (.int .i64 (a1.length : Int)))))), (11, .t (.c (.p true (iI v7)))), (16, .t (.c (.p false (R 1 (eI .i64) 0 ((rdD z72 a1 v7).f0))))), (17, .t (.c (.p true (.sc (.int .i64 (((rdD z72 a1 v7).f0).length : Int)))))), (18, .t (.c (.p true (iI v9))))]
def impl_stepFault.h1H (a1 : List S72) (v7 : Int) (v9 : Int) (a0 : S38) : List (Nat × Content) := [(128, .box 38 [.p false (iI a0.f0), .p false (iI a0.f1), .p false (.sc (.string a0.f2))]), (384, .box 72 [.p false (R 1 (eI .i64) 0 ((rdD z72 a1 v7).f0))])]
def impl_stepFault.x1T (a1 : List S72) (v7 : Int) (a0 : S38) : List (Nat × AV) := [(2, .ptr 128 0), (9, .t (.c (.p false (R 1 e72 z72 a1)))), (10, .t (.c (.p true (.sc (.int .i64 (a1.length : Int)))))), (11, .t (.c (.p true (iI v7))))]
def impl_stepFault.x1H (a1 : List S72) (v7 : Int) (a0 : S38) : List (Nat × Content) := [(128, .box 38 [.p false (iI a0.f0), .p false (iI a0.f1), .p false (.sc (.string a0.f2))])]
def impl_stepFault.l1 : Nat → List S72 → Int → S38 → Int → Option (Bool ⊕ Unit)
  | 0, _, _, _, _ => none
  | kq + 1, a1, v7, a0, v9 => if v9 < (((rdD z72 a1 v7).f0).length : Int) then (if 0 ≤ v9 then ((impl_isFree.f a0 (rdD 0 ((rdD z72 a1 v7).f0) v9)).bind fun t10 => if t10 = true then (if 0 < v9 then (if 0 ≤ (w64 (v9 - 1)) then (if (w64 (v9 - 1)) < (((rdD z72 a1 v7).f0).length : Int) then (if (rdD 0 ((rdD z72 a1 v7).f0) v9) = (rdD 0 ((rdD z72 a1 v7).f0) (w64 (v9 - 1))) then (impl_stepFault.l1 kq a1 v7 a0 (w64 (v9 + 1))) else ((impl_around.f a0 (rdD 0 ((rdD z72 a1 v7).f0) (w64 (v9 - 1)))).bind fun t11 => (slices_Contains_int_int.f kq t11 (rdD 0 ((rdD z72 a1 v7).f0) v9)).bind fun t12 => if t12 = true then (impl_stepFault.l1 kq a1 v7 a0 (w64 (v9 + 1))) else (some (.inl true)))) else none) else none) else (impl_stepFault.l1 kq a1 v7 a0 (w64 (v9 + 1)))) else (some (.inl true))) else none) else (some (.inr ()))
def impl_stepFault.h0T (a1 : List S72) (v7 : Int) (a0 : S38) : List (Nat × AV) := [(2, .ptr 128 0), (9, .t (.c (.p false (R 1 e72 z72 a1)))), (10, .t (.c (.p true (.sc (.int .i64 (a1.length : Int)))))), (11, .t (.c (.p true (iI v7))))]
def impl_stepFault.h0H (a1 : List S72) (v7 : Int) (a0 : S38) : List (Nat × Content) := [(128, .box 38 [.p false (iI a0.f0), .p false (iI a0.f1), .p false (.sc (.string a0.f2))])]
def impl_stepFault.l0 : Nat → List S72 → S38 → Int → Option Bool
  | 0, _, _, _ => none
  | kq + 1, a1, a0, v7 => if v7 < (a1.length : Int) then (if 0 ≤ v7 then ((impl_stepFault.l1 kq a1 v7 a0 0).bind fun x40 => match x40 with | .inl r => some r | .inr y13 => (impl_stepFault.l0 kq a1 a0 (w64 (v7 + 1)))) else none) else (some false)
def impl_stepFault.f (k : Nat) (a0 : S38) (a1 : List S72) : Option Bool := impl_stepFault.l0 k a1 a0 0
theorem impl_stepFault.go : Callable prog 169 := ⟨_, func169, by kernel_rfl, rfl⟩
theorem impl_stepFault.ok (k : Nat) (a0 : S38) (a1 : List S72) (r : Bool) (h : impl_stepFault.f k a0 a1 = some r) : VCalls prog 169 [.agg (e38 a0), .c (R 1 e72 z72 a1)] [.c (.p (.sc (.bool r)))] := by
  unfold impl_stepFault.f at h
  refine VCalls.of (fn := f169) (N := 56) func169 rfl rfl (fun w0 => ?_)
  have H0 : ∀ (kq : Nat) (v7 : Int), impl_stepFault.l0 kq a1 a0 v7 = some r → AG prog 169 56 [.c (.p (.sc (.bool r)))] w0 (headStk (codeOf f169) 0) (mkFS (impl_stepFault.h0T a1 v7 a0) (impl_stepFault.h0H a1 v7 a0)) := by
    intro kq
    induction kq with
    | zero => intro v7 h; cases h
    | succ kq ih =>
      intro v7 h
      rw [impl_stepFault.l0] at h
      by_cases c20 : v7 < (a1.length : Int)
      · replace h := ip c20 h
        obtain ⟨c21, h⟩ := ifN h
        have H1 : ∀ (kq : Nat) (v9 : Int) (x : (Bool ⊕ Unit)), impl_stepFault.l1 kq a1 v7 a0 v9 = some x → (match x with | .inl r' => r' = r | .inr y13 => AG prog 169 56 [.c (.p (.sc (.bool r)))] w0 (exitStk (codeOf f169) 1) (mkFS (impl_stepFault.x1T a1 v7 a0) (impl_stepFault.x1H a1 v7 a0))) → AG prog 169 56 [.c (.p (.sc (.bool r)))] w0 (headStk (codeOf f169) 1) (mkFS (impl_stepFault.h1T a1 v7 v9 a0) (impl_stepFault.h1H a1 v7 v9 a0)) := by
          intro kq
          induction kq with
          | zero => intro v9 x h hx; cases h
          | succ kq ih =>
            intro v9 x h hx
            rw [impl_stepFault.l1] at h
            by_cases c29 : v9 < (((rdD z72 a1 v7).f0).length : Int)
            · replace h := ip c29 h
              obtain ⟨c30, h⟩ := ifN h
              obtain ⟨t10, g31, h⟩ := bindN h
              let C31 := mkCon (impl_isFree.ok a0 (rdD 0 ((rdD z72 a1 v7).f0) v9) t10 g31) impl_isFree.go
              by_cases c32 : t10 = true
              · replace h := ip c32 h
                by_cases c33 : 0 < v9
                · replace h := ip c33 h
                  obtain ⟨c34, h⟩ := ifN h
                  obtain ⟨c35, h⟩ := ifN h
                  by_cases c36 : (rdD 0 ((rdD z72 a1 v7).f0) v9) = (rdD 0 ((rdD z72 a1 v7).f0) (w64 (v9 - 1)))
                  · replace h := ip c36 h
                    exact hd func169 [.b true, .call C31, .dec 27 false, .dec 30 true, .dec 40 false, .b false, .fin] (oT c29 (o1 c30 (o1 c29 (oc C31 (o1 (bnf c32) (oT c33 (o1 c34 (o1 c35 (o1 (bnf (decide_eq_true c36)) (o1 (rfl : false = false) on)))))))))) (ih (w64 (v9 + 1)) _ h hx)
                  · replace h := iq c36 h
                    obtain ⟨t11, g37, h⟩ := bindN h
                    let C37 := mkCon (impl_around.ok a0 (rdD 0 ((rdD z72 a1 v7).f0) (w64 (v9 - 1))) t11 g37) impl_around.go
                    obtain ⟨t12, g38, h⟩ := bindN h
                    let C38 := mkCon (slices_Contains_int_int.ok kq t11 (rdD 0 ((rdD z72 a1 v7).f0) v9) t12 g38) slices_Contains_int_int.go
                    by_cases c39 : t12 = true
                    · replace h := ip c39 h
                      exact hd func169 [.b true, .call C31, .dec 27 false, .dec 30 true, .dec 40 true, .call C37, .call C38, .b false, .fin] (oT c29 (o1 c30 (o1 c29 (oc C31 (o1 (bnf c32) (oT c33 (o1 c34 (o1 c35 (o1 (bnt (decide_eq_false c36)) (o1 c34 (o1 c35 (oc C37 (oc C38 (o1 (bnf c39) on)))))))))))))) (ih (w64 (v9 + 1)) _ h hx)
                    · replace h := iq c39 h
                      cases h
                      subst hx
                      exact rt func169 [.b true, .call C31, .dec 27 false, .dec 30 true, .dec 40 true, .call C37, .call C38, .b true, .fin] (oT c29 (o1 c30 (o1 c29 (oc C31 (o1 (bnf c32) (oT c33 (o1 c34 (o1 c35 (o1 (bnt (decide_eq_false c36)) (o1 c34 (o1 c35 (oc C37 (oc C38 (oN c39 on))))))))))))))
                · replace h := iq c33 h
                  exact hd func169 [.b true, .call C31, .dec 27 false, .dec 30 false, .b false, .fin] (oT c29 (o1 c30 (o1 c29 (oc C31 (o1 (bnf c32) (oF c33 (o1 (rfl : false = false) on))))))) (ih (w64 (v9 + 1)) _ h hx)
              · replace h := iq c32 h
                cases h
                subst hx
                exact rt func169 [.b true, .call C31, .dec 27 true, .b true, .fin] (oT c29 (o1 c30 (o1 c29 (oc C31 (oN c32 (oR on))))))
            · replace h := iq c29 h
              cases h
              exact st func169 [.b false, .fin] (oF c29 on) hx
        obtain ⟨x40, g40, h⟩ := bindN h
        cases x40 with
        | inl r' =>
          exact hd func169 [.b true, .fin] (oT c20 (o1 c21 (o1 c20 on))) (H1 kq 0 _ g40 (Option.some.inj h))
        | inr y13 =>
          refine hd func169 [.b true, .fin] (oT c20 (o1 c21 (o1 c20 on))) (H1 kq 0 _ g40 ?_)
          show AG prog 169 56 [.c (.p (.sc (.bool r)))] w0 (exitStk (codeOf f169) 1) (mkFS (impl_stepFault.x1T a1 v7 a0) (impl_stepFault.x1H a1 v7 a0))
          exact hd func169 [.fin] on (ih (w64 (v7 + 1)) h)
      · replace h := iq c20 h
        cases h
        exact rt func169 [.b false, .fin, .fin] (oF c20 on)
  exact hd func169 [.fin] on (H0 k 0 h)

/-! ### impl_areLevel_1: function 248 -/
def impl_areLevel_1.f (a0 : S72) (a1 : List S72) : Option Bool := if 0 < (a1.length : Int) then (some (!decide ((a0.f0.length : Int) = (((rdD z72 a1 0).f0).length : Int)))) else none
theorem impl_areLevel_1.go : Callable prog 248 := ⟨_, func248, by kernel_rfl, rfl⟩
theorem impl_areLevel_1.ok (a0 : S72) (a1 : List S72) (r : Bool) (h : impl_areLevel_1.f a0 a1 = some r) : VCalls prog 248 [.agg (e72 a0), .ptr [R 1 e72 z72 a1]] [.c (.p (.sc (.bool r)))] := by
  unfold impl_areLevel_1.f at h
  refine VCalls.of (fn := f248) (N := 13) func248 rfl rfl (fun w0 => ?_)
  obtain ⟨c1, h⟩ := ifN h
  cases h
  exact rt func248 [.fin] (o1 (by decide : (0 : Int) ≤ 0) (o1 c1 on))
end Go.Proofs.YtoaknaceaghclaaGreat.V
