/- What each Go function computes, and that the machine does so: printed by a program of this session (avgen.py). -/
import Derived.Test.YtoaknaceaghclaaGreatV6
namespace Go.Proofs.YtoaknaceaghclaaGreat.V
open Go Go.Av Go.Proofs
set_option linter.unusedVariables false
set_option maxRecDepth 100000
/-! ### impl_Around: function 208 -/
def impl_Around.f (k : Nat) (a0 : S38) (a1 : Int) : Option (List Int) := (impl_GridOk.f k a0).bind fun t322 => if t322 = true then ((impl_around.f a0 a1).bind fun t351 => some t351) else (some ([] : List Int))
theorem impl_Around.go : Callable Tryz.prog 208 := ⟨_, Tryz.func208, by kernel_rfl, rfl⟩
theorem impl_Around.ok (k : Nat) (a0 : S38) (a1 : Int) (r : (List Int)) (h : impl_Around.f k a0 a1 = some r) : VCalls Tryz.prog 208 [.agg (e38 a0), .c (.sc (.int .i64 a1))] [.c (.own 3 1 r.length (fun j => (eI .i64) (r.getD j 0)))] := by
  unfold impl_Around.f at h
  refine VCalls.of (fn := Tryz.f208) (N := 11) Tryz.func208 rfl rfl (fun w0 => ?_)
  obtain ⟨t322, g1033, h⟩ := bindN h
  let C1033 := mkCon (impl_GridOk.ok k a0 t322 g1033) impl_GridOk.go
  by_cases c1034 : t322 = true
  · replace h := (if_pos c1034).symm.trans h
    obtain ⟨t351, g1128, h⟩ := bindN h
    let C1128 := mkCon (impl_around.ok a0 a1 t351 g1128) impl_around.go
    cases h
    exact byRet MX Tryz.func208 1000 [.call C1033, .b false, .call C1128, .fin] (oa (sc_ C1033) (o1 (bnf c1034) (oa (sc_ C1128) on))) (by kernel_rfl)
  · replace h := (if_neg c1034).symm.trans h
    cases h
    exact byRet MX Tryz.func208 1000 [.call C1033, .b true, .fin, .nil 4 384256 3 1, orow 384256 (eI .i64) 0 ([] : List Int)] (oa (sc_ C1033) (o1 (bnt (eqf c1034)) (o1 (GE.nil (eI .i64) 0) on))) (by kernel_rfl)

/-! ### slices_Index_int_int: function 183 -/
def slices_Index_int_int.h0T (a0 : List Int) (a1 : Int) (v353 : Int) : List (Nat × AV) := [(0, .t (.c (.p false (R 1 (eI .i64) 0 a0)))), (1, .t (.c (.p false (.sc (.int .i64 a1))))), (7, .t (.c (.p true (.sc (.int .i64 (a0.length : Int)))))), (8, .t (.c (.p true (.sc (.int .i64 v353)))))]
def slices_Index_int_int.h0H (a0 : List Int) (a1 : Int) (v353 : Int) : List (Nat × Content) := []
def slices_Index_int_int.l0 : Nat → List Int → Int → Int → Option Int
  | 0, _, _, _ => none
  | kq + 1, a0, a1, v353 => if v353 < (a0.length : Int) then (if 0 ≤ v353 then (if a1 = (rdD 0 a0 v353) then (some v353) else (slices_Index_int_int.l0 kq a0 a1 (w64 (v353 + 1)))) else none) else (some (-1))
def slices_Index_int_int.f (k : Nat) (a0 : List Int) (a1 : Int) : Option Int := slices_Index_int_int.l0 k a0 a1 0
theorem slices_Index_int_int.go : Callable Tryz.prog 183 := ⟨_, Tryz.func183, by kernel_rfl, rfl⟩
theorem slices_Index_int_int.ok (k : Nat) (a0 : List Int) (a1 : Int) (r : Int) (h : slices_Index_int_int.f k a0 a1 = some r) : VCalls Tryz.prog 183 [.c (R 1 (eI .i64) 0 a0), .c (.sc (.int .i64 a1))] [.c (.p (.sc (.int .i64 r)))] := by
  unfold slices_Index_int_int.f at h
  refine VCalls.of (fn := Tryz.f183) (N := 19) Tryz.func183 rfl rfl (fun w0 => ?_)
  have H0 : ∀ (kq : Nat) (v353 : Int), slices_Index_int_int.l0 kq a0 a1 v353 = some r → AG Tryz.prog 183 19 [.c (.p (.sc (.int .i64 r)))] w0 (headStk (codeOf Tryz.f183) 0) (mkFS (slices_Index_int_int.h0T a0 a1 v353) (slices_Index_int_int.h0H a0 a1 v353)) := by
    intro kq
    induction kq with
    | zero => intro v353 h; cases h
    | succ kq ih =>
      intro v353 h
      rw [slices_Index_int_int.l0] at h
      by_cases c1132 : v353 < (a0.length : Int)
      · replace h := (if_pos c1132).symm.trans h
        obtain ⟨c1133, h⟩ := ifN h
        by_cases c1134 : a1 = (rdD 0 a0 v353)
        · replace h := (if_pos c1134).symm.trans h
          cases h
          exact byRet MX Tryz.func183 1000 [.b true, .b true, .fin] (o1 (decide_eq_true c1132) (o1 c1133 (o1 c1132 (o1 (decide_eq_true c1134) on)))) (by kernel_rfl)
        · replace h := (if_neg c1134).symm.trans h
          exact byHead MX Tryz.func183 1000 [.b true, .b false, .fin] (o1 (decide_eq_true c1132) (o1 c1133 (o1 c1132 (o1 (decide_eq_false c1134) on)))) (ih (w64 (v353 + 1)) h) (by kernel_rfl)
      · replace h := (if_neg c1132).symm.trans h
        cases h
        exact byRet MX Tryz.func183 1000 [.b false, .fin, .fin] (o1 (decide_eq_false c1132) on) (by kernel_rfl)
  exact byHead MX Tryz.func183 1000 [.fin] on (H0 k 0 h) (by kernel_rfl)

/-! ### slices_Contains_int_int: function 105 -/
def slices_Contains_int_int.f (k : Nat) (a0 : List Int) (a1 : Int) : Option Bool := (slices_Index_int_int.f k a0 a1).bind fun t354 => some (decide (0 ≤ t354))
theorem slices_Contains_int_int.go : Callable Tryz.prog 105 := ⟨_, Tryz.func105, by kernel_rfl, rfl⟩
theorem slices_Contains_int_int.ok (k : Nat) (a0 : List Int) (a1 : Int) (r : Bool) (h : slices_Contains_int_int.f k a0 a1 = some r) : VCalls Tryz.prog 105 [.c (R 1 (eI .i64) 0 a0), .c (.sc (.int .i64 a1))] [.c (.p (.sc (.bool r)))] := by
  unfold slices_Contains_int_int.f at h
  refine VCalls.of (fn := Tryz.f105) (N := 9) Tryz.func105 rfl rfl (fun w0 => ?_)
  obtain ⟨t354, g1135, h⟩ := bindN h
  let C1135 := mkCon (slices_Index_int_int.ok k a0 a1 t354 g1135) slices_Index_int_int.go
  cases h
  exact byRet MX Tryz.func105 1000 [.call C1135, .fin] (oa (sc_ C1135) on) (by kernel_rfl)

/-! ### impl_Beside: function 160 -/
def impl_Beside.f (k : Nat) (a0 : S38) (a1 : Int) (a2 : Int) : Option Bool := (impl_Around.f k a0 a1).bind fun t352 => (slices_Contains_int_int.f k t352 a2).bind fun t355 => some t355
theorem impl_Beside.go : Callable Tryz.prog 160 := ⟨_, Tryz.func160, by kernel_rfl, rfl⟩
theorem impl_Beside.ok (k : Nat) (a0 : S38) (a1 : Int) (a2 : Int) (r : Bool) (h : impl_Beside.f k a0 a1 a2 = some r) : VCalls Tryz.prog 160 [.agg (e38 a0), .c (.sc (.int .i64 a1)), .c (.sc (.int .i64 a2))] [.c (.p (.sc (.bool r)))] := by
  unfold impl_Beside.f at h
  refine VCalls.of (fn := Tryz.f160) (N := 12) Tryz.func160 rfl rfl (fun w0 => ?_)
  obtain ⟨t352, g1129, h⟩ := bindN h
  let C1129 := mkCon (impl_Around.ok k a0 a1 t352 g1129) impl_Around.go
  obtain ⟨t355, g1136, h⟩ := bindN h
  let C1136 := mkCon (slices_Contains_int_int.ok k t352 a2 t355 g1136) slices_Contains_int_int.go
  cases h
  exact byRet MX Tryz.func160 1000 [.call C1129, .call C1136, .fin] (oa (sc_ C1129) (oa (sc_ C1136) on)) (by kernel_rfl)

/-! ### impl_heldBy: function 103 -/
def impl_heldBy.f (a0 : S69) : Option (List Int) := if a0.f2 < 0 then (some ([a0.f1])) else (some ([a0.f1, a0.f2]))
theorem impl_heldBy.go : Callable Tryz.prog 103 := ⟨_, Tryz.func103, by kernel_rfl, rfl⟩
theorem impl_heldBy.ok (a0 : S69) (r : (List Int)) (h : impl_heldBy.f a0 = some r) : VCalls Tryz.prog 103 [.agg (e69 a0)] [.c (.own 3 1 r.length (fun j => (eI .i64) (r.getD j 0)))] := by
  unfold impl_heldBy.f at h
  refine VCalls.of (fn := Tryz.f103) (N := 14) Tryz.func103 rfl rfl (fun w0 => ?_)
  by_cases c1145 : a0.f2 < 0
  · replace h := (if_pos c1145).symm.trans h
    cases h
    exact byRet MX Tryz.func103 1000 [.b true, rowe 8 (eI .i64) 0 ([a0.f1]), .fin] (o1 (decide_eq_true c1145) (o1 (GE.lit 1 (eI .i64) 0 [a0.f1] (by intro x; rfl)) on)) (by kernel_rfl)
  · replace h := (if_neg c1145).symm.trans h
    cases h
    exact byRet MX Tryz.func103 1000 [.b false, rowe 13 (eI .i64) 0 ([a0.f1, a0.f2]), .fin] (o1 (decide_eq_false c1145) (o1 (GE.lit 1 (eI .i64) 0 [a0.f1, a0.f2] (by intro x; rfl)) on)) (by kernel_rfl)

/-! ### impl_areApart: function 161 -/
def impl_areApart.h1T (a0 : List S69) (v406 : Int) (t407 : List Int) (v419 : Int) (v417 : Nat) (v418 : List Int) : List (Nat × AV) := [(3, .t (.c (.h 512))), (5, .ptr 320 0), (9, .t (.c (.p false (R 4 e69 z69 a0)))), (10, .t (.c (.p true (.sc (.int .i64 (a0.length : Int)))))), (11, .t (.c (.p true (.sc (.int .i64 v406))))), (16, .t (.c (.h 1024))), (17, .t (.c (.p true (.sc (.int .i64 (t407.length : Int)))))), (18, .t (.c (.p true (.sc (.int .i64 v419)))))]
noncomputable def impl_areApart.h1H (a0 : List S69) (v406 : Int) (t407 : List Int) (v419 : Int) (v417 : Nat) (v418 : List Int) : List (Nat × Content) := [(320, .box 69 [.p false (.sc (.int .i64 ((rdD z69 a0 v406).f0))), .p false (.sc (.int .i64 ((rdD z69 a0 v406).f1))), .p false (.sc (.int .i64 ((rdD z69 a0 v406).f2))), .p false (.sc (.bool ((rdD z69 a0 v406).f3)))]), (512, .set Tryz.prog 3 4 v417 v418), (1024, .row 3 1 t407.length (fun j => (eI .i64) (t407.getD j 0)) true)]
def impl_areApart.x1T (a0 : List S69) (v406 : Int) (y420 : Nat × (List Int)) : List (Nat × AV) := [(3, .t (.c (.h 512))), (9, .t (.c (.p false (R 4 e69 z69 a0)))), (10, .t (.c (.p true (.sc (.int .i64 (a0.length : Int)))))), (11, .t (.c (.p true (.sc (.int .i64 v406)))))]
noncomputable def impl_areApart.x1H (a0 : List S69) (v406 : Int) (y420 : Nat × (List Int)) : List (Nat × Content) := [(512, .set Tryz.prog 3 4 y420.1 y420.2)]
def impl_areApart.l1 : Nat → List Int → List S69 → Int → Nat → List Int → Int → Option (Bool ⊕ (Nat × (List Int)))
  | 0, _, _, _, _, _, _ => none
  | kq + 1, t407, a0, v406, v417, v418, v419 => if v419 < (t407.length : Int) then (if 0 ≤ v419 then (if v419 = 1 then (if (rdD 0 t407 v419) = (rdD z69 a0 v406).f1 then (impl_areApart.l1 kq t407 a0 v406 v417 v418 (w64 (v419 + 1))) else (if (Lit.int .i64 (rdD 0 t407 v419)).wf = true then (if (List.contains v418 (rdD 0 t407 v419)) = true then (some (.inl false)) else (if v417 < maxLen then (impl_areApart.l1 kq t407 a0 v406 (v417 + 1) ((rdD 0 t407 v419) :: v418) (w64 (v419 + 1))) else none)) else none)) else (if (Lit.int .i64 (rdD 0 t407 v419)).wf = true then (if (List.contains v418 (rdD 0 t407 v419)) = true then (some (.inl false)) else (if v417 < maxLen then (impl_areApart.l1 kq t407 a0 v406 (v417 + 1) ((rdD 0 t407 v419) :: v418) (w64 (v419 + 1))) else none)) else none)) else none) else (some (.inr (v417, v418)))
def impl_areApart.h0T (a0 : List S69) (v406 : Int) (v404 : Nat) (v405 : List Int) : List (Nat × AV) := [(3, .t (.c (.h 512))), (9, .t (.c (.p false (R 4 e69 z69 a0)))), (10, .t (.c (.p true (.sc (.int .i64 (a0.length : Int)))))), (11, .t (.c (.p true (.sc (.int .i64 v406)))))]
noncomputable def impl_areApart.h0H (a0 : List S69) (v406 : Int) (v404 : Nat) (v405 : List Int) : List (Nat × Content) := [(512, .set Tryz.prog 3 4 v404 v405)]
def impl_areApart.l0 : Nat → List S69 → Nat → List Int → Int → Option Bool
  | 0, _, _, _, _ => none
  | kq + 1, a0, v404, v405, v406 => if v406 < (a0.length : Int) then (if 0 ≤ v406 then ((impl_heldBy.f (rdD z69 a0 v406)).bind fun t407 => (impl_areApart.l1 kq t407 a0 v406 v404 v405 0).bind fun x1344 => match x1344 with | .inl r => some r | .inr y420 => (impl_areApart.l0 kq a0 y420.1 y420.2 (w64 (v406 + 1)))) else none) else (some true)
def impl_areApart.f (k : Nat) (a0 : List S69) : Option Bool := impl_areApart.l0 k a0 0 ([] : List Int) 0
theorem impl_areApart.go : Callable Tryz.prog 161 := ⟨_, Tryz.func161, by kernel_rfl, rfl⟩
theorem impl_areApart.ok (k : Nat) (a0 : List S69) (r : Bool) (h : impl_areApart.f k a0 = some r) : VCalls Tryz.prog 161 [.c (R 4 e69 z69 a0)] [.c (.p (.sc (.bool r)))] := by
  unfold impl_areApart.f at h
  refine VCalls.of (fn := Tryz.f161) (N := 38) Tryz.func161 rfl rfl (fun w0 => ?_)
  have H0 : ∀ (kq : Nat) (v404 : Nat) (v405 : List Int) (v406 : Int), impl_areApart.l0 kq a0 v404 v405 v406 = some r → AG Tryz.prog 161 38 [.c (.p (.sc (.bool r)))] w0 (headStk (codeOf Tryz.f161) 0) (mkFS (impl_areApart.h0T a0 v406 v404 v405) (impl_areApart.h0H a0 v406 v404 v405)) := by
    intro kq
    induction kq with
    | zero => intro v404 v405 v406 h; cases h
    | succ kq ih =>
      intro v404 v405 v406 h
      rw [impl_areApart.l0] at h
      by_cases c1294 : v406 < (a0.length : Int)
      · replace h := (if_pos c1294).symm.trans h
        obtain ⟨c1295, h⟩ := ifN h
        obtain ⟨t407, g1296, h⟩ := bindN h
        let C1296 := mkCon (impl_heldBy.ok (rdD z69 a0 v406) t407 g1296) impl_heldBy.go
        have H1 : ∀ (kq : Nat) (v417 : Nat) (v418 : List Int) (v419 : Int) (x : (Bool ⊕ (Nat × (List Int)))), impl_areApart.l1 kq t407 a0 v406 v417 v418 v419 = some x → (match x with | .inl r' => r' = r | .inr y420 => AG Tryz.prog 161 38 [.c (.p (.sc (.bool r)))] w0 (exitStk (codeOf Tryz.f161) 1) (mkFS (impl_areApart.x1T a0 v406 y420) (impl_areApart.x1H a0 v406 y420))) → AG Tryz.prog 161 38 [.c (.p (.sc (.bool r)))] w0 (headStk (codeOf Tryz.f161) 1) (mkFS (impl_areApart.h1T a0 v406 t407 v419 v417 v418) (impl_areApart.h1H a0 v406 t407 v419 v417 v418)) := by
          intro kq
          induction kq with
          | zero => intro v417 v418 v419 x h hx; cases h
          | succ kq ih =>
            intro v417 v418 v419 x h hx
            rw [impl_areApart.l1] at h
            by_cases c1334 : v419 < (t407.length : Int)
            · replace h := (if_pos c1334).symm.trans h
              obtain ⟨c1335, h⟩ := ifN h
              by_cases c1336 : v419 = 1
              · replace h := (if_pos c1336).symm.trans h
                by_cases c1337 : (rdD 0 t407 v419) = (rdD z69 a0 v406).f1
                · replace h := (if_pos c1337).symm.trans h
                  exact byHead MX Tryz.func161 1000 [.b true, .dec 25 true, .b true, .fin, .fin] (o1 (decide_eq_true c1334) (o1 c1335 (o1 c1334 (o1 (decide_eq_true c1336) (o1 (decide_eq_true c1337) on))))) (ih v417 v418 (w64 (v419 + 1)) _ h hx) (by kernel_rfl)
                · replace h := (if_neg c1337).symm.trans h
                  obtain ⟨c1338, h⟩ := ifN h
                  by_cases c1339 : (List.contains v418 (rdD 0 t407 v419)) = true
                  · replace h := (if_pos c1339).symm.trans h
                    cases h
                    subst hx
                    exact byRet MX Tryz.func161 1000 [.b true, .dec 25 true, .b false, .b true, .fin] (o1 (decide_eq_true c1334) (o1 c1335 (o1 c1334 (o1 (decide_eq_true c1336) (o1 (decide_eq_false c1337) (o1 (rfl : Tryz.prog = Tryz.prog) (o1 c1338 (o1 c1339 on)))))))) (by kernel_rfl)
                  · replace h := (if_neg c1339).symm.trans h
                    obtain ⟨c1340, h⟩ := ifN h
                    exact byHead MX Tryz.func161 1000 [.b true, .dec 25 true, .b false, .b false, .fin] (o1 (decide_eq_true c1334) (o1 c1335 (o1 c1334 (o1 (decide_eq_true c1336) (o1 (decide_eq_false c1337) (o1 (rfl : Tryz.prog = Tryz.prog) (o1 c1338 (o1 (eqf c1339) (o1 (rfl : Tryz.prog = Tryz.prog) (o1 c1340 (o1 c1338 on))))))))))) (ih (v417 + 1) ((rdD 0 t407 v419) :: v418) (w64 (v419 + 1)) _ h hx) (by kernel_rfl)
              · replace h := (if_neg c1336).symm.trans h
                obtain ⟨c1341, h⟩ := ifN h
                by_cases c1342 : (List.contains v418 (rdD 0 t407 v419)) = true
                · replace h := (if_pos c1342).symm.trans h
                  cases h
                  subst hx
                  exact byRet MX Tryz.func161 1000 [.b true, .dec 25 false, .b false, .b true, .fin] (o1 (decide_eq_true c1334) (o1 c1335 (o1 c1334 (o1 (decide_eq_false c1336) (o1 (rfl : false = false) (o1 (rfl : Tryz.prog = Tryz.prog) (o1 c1341 (o1 c1342 on)))))))) (by kernel_rfl)
                · replace h := (if_neg c1342).symm.trans h
                  obtain ⟨c1343, h⟩ := ifN h
                  exact byHead MX Tryz.func161 1000 [.b true, .dec 25 false, .b false, .b false, .fin] (o1 (decide_eq_true c1334) (o1 c1335 (o1 c1334 (o1 (decide_eq_false c1336) (o1 (rfl : false = false) (o1 (rfl : Tryz.prog = Tryz.prog) (o1 c1341 (o1 (eqf c1342) (o1 (rfl : Tryz.prog = Tryz.prog) (o1 c1343 (o1 c1341 on))))))))))) (ih (v417 + 1) ((rdD 0 t407 v419) :: v418) (w64 (v419 + 1)) _ h hx) (by kernel_rfl)
            · replace h := (if_neg c1334).symm.trans h
              cases h
              exact byStop MX Tryz.func161 1000 [.b false, .fin] (o1 (decide_eq_false c1334) on) hx (by kernel_rfl)
        obtain ⟨x1344, g1344, h⟩ := bindN h
        cases x1344 with
        | inl r' =>
          exact byHead MX Tryz.func161 1000 [.b true, .call C1296, .fin] (o1 (decide_eq_true c1294) (o1 c1295 (o1 c1294 (oa (sc_ C1296) on)))) (H1 kq v404 v405 0 _ g1344 (Option.some.inj h)) (by kernel_rfl)
        | inr y420 =>
          refine byHead MX Tryz.func161 1000 [.b true, .call C1296, .fin] (o1 (decide_eq_true c1294) (o1 c1295 (o1 c1294 (oa (sc_ C1296) on)))) (H1 kq v404 v405 0 _ g1344 ?_) (by kernel_rfl)
          show AG Tryz.prog 161 38 [.c (.p (.sc (.bool r)))] w0 (exitStk (codeOf Tryz.f161) 1) (mkFS (impl_areApart.x1T a0 v406 y420) (impl_areApart.x1H a0 v406 y420))
          exact byHead MX Tryz.func161 1000 [.fin] on (ih y420.1 y420.2 (w64 (v406 + 1)) h) (by kernel_rfl)
      · replace h := (if_neg c1294).symm.trans h
        cases h
        exact byRet MX Tryz.func161 1000 [.b false, .fin, .fin] (o1 (decide_eq_false c1294) on) (by kernel_rfl)
  exact byHead MX Tryz.func161 1000 [.fin] on (H0 k 0 ([] : List Int) 0 h) (by kernel_rfl)

/-! ### impl_RobotsOk: function 91 -/
def impl_RobotsOk.h0T (a1 : List S69) (v320 : Int) (a0 : S38) : List (Nat × AV) := [(1, .t (.c (.p false (R 4 e69 z69 a1)))), (2, .ptr 128 0), (15, .t (.c (.p false (R 4 e69 z69 a1)))), (16, .t (.c (.p true (.sc (.int .i64 (a1.length : Int)))))), (17, .t (.c (.p true (.sc (.int .i64 v320)))))]
def impl_RobotsOk.h0H (a1 : List S69) (v320 : Int) (a0 : S38) : List (Nat × Content) := [(128, .box 38 [.p false (.sc (.int .i64 a0.f0)), .p false (.sc (.int .i64 a0.f1)), .p false (.sc (.string a0.f2))])]
def impl_RobotsOk.l0 : Nat → List S69 → S38 → Int → Option Bool
  | 0, _, _, _ => none
  | kq + 1, a1, a0, v320 => if v320 < (a1.length : Int) then (if 0 ≤ v320 then (if (rdD z69 a1 v320).f0 < 0 then (some false) else (if 99 < (rdD z69 a1 v320).f0 then (some false) else (if 0 < v320 then (if 0 ≤ (w64 (v320 - 1)) then (if (w64 (v320 - 1)) < (a1.length : Int) then (if (rdD z69 a1 v320).f0 ≤ (rdD z69 a1 (w64 (v320 - 1))).f0 then (some false) else ((impl_isFree.f a0 ((rdD z69 a1 v320).f1)).bind fun t321 => if t321 = true then (if (rdD z69 a1 v320).f2 = (-1) then (impl_RobotsOk.l0 kq a1 a0 (w64 (v320 + 1))) else ((impl_Beside.f kq a0 ((rdD z69 a1 v320).f1) ((rdD z69 a1 v320).f2)).bind fun t356 => if t356 = true then (impl_RobotsOk.l0 kq a1 a0 (w64 (v320 + 1))) else (some false))) else (some false))) else none) else none) else ((impl_isFree.f a0 ((rdD z69 a1 v320).f1)).bind fun t357 => if t357 = true then (if (rdD z69 a1 v320).f2 = (-1) then (impl_RobotsOk.l0 kq a1 a0 (w64 (v320 + 1))) else ((impl_Beside.f kq a0 ((rdD z69 a1 v320).f1) ((rdD z69 a1 v320).f2)).bind fun t358 => if t358 = true then (impl_RobotsOk.l0 kq a1 a0 (w64 (v320 + 1))) else (some false))) else (some false))))) else none) else ((impl_areApart.f kq a1).bind fun t421 => some t421)
def impl_RobotsOk.f (k : Nat) (a0 : S38) (a1 : List S69) : Option Bool := (impl_GridOk.f k a0).bind fun t318 => if t318 = true then (if 10 < (a1.length : Int) then (some false) else (impl_RobotsOk.l0 k a1 a0 0)) else (some false)
theorem impl_RobotsOk.go : Callable Tryz.prog 91 := ⟨_, Tryz.func91, by kernel_rfl, rfl⟩
theorem impl_RobotsOk.ok (k : Nat) (a0 : S38) (a1 : List S69) (r : Bool) (h : impl_RobotsOk.f k a0 a1 = some r) : VCalls Tryz.prog 91 [.agg (e38 a0), .c (R 4 e69 z69 a1)] [.c (.p (.sc (.bool r)))] := by
  unfold impl_RobotsOk.f at h
  refine VCalls.of (fn := Tryz.f91) (N := 69) Tryz.func91 rfl rfl (fun w0 => ?_)
  obtain ⟨t318, g1007, h⟩ := bindN h
  let C1007 := mkCon (impl_GridOk.ok k a0 t318 g1007) impl_GridOk.go
  by_cases c1008 : t318 = true
  · replace h := (if_pos c1008).symm.trans h
    by_cases c1009 : 10 < (a1.length : Int)
    · replace h := (if_pos c1009).symm.trans h
      cases h
      exact byRet MX Tryz.func91 1000 [.call C1007, .dec 10 false, .b true, .fin] (oa (sc_ C1007) (o1 (bnf c1008) (o1 (decide_eq_true c1009) on))) (by kernel_rfl)
    · replace h := (if_neg c1009).symm.trans h
      have H0 : ∀ (kq : Nat) (v320 : Int), impl_RobotsOk.l0 kq a1 a0 v320 = some r → AG Tryz.prog 91 69 [.c (.p (.sc (.bool r)))] w0 (headStk (codeOf Tryz.f91) 0) (mkFS (impl_RobotsOk.h0T a1 v320 a0) (impl_RobotsOk.h0H a1 v320 a0)) := by
        intro kq
        induction kq with
        | zero => intro v320 h; cases h
        | succ kq ih =>
          intro v320 h
          rw [impl_RobotsOk.l0] at h
          by_cases c1022 : v320 < (a1.length : Int)
          · replace h := (if_pos c1022).symm.trans h
            obtain ⟨c1023, h⟩ := ifN h
            by_cases c1024 : (rdD z69 a1 v320).f0 < 0
            · replace h := (if_pos c1024).symm.trans h
              cases h
              exact byRet MX Tryz.func91 1000 [.b true, .dec 25 true, .b true, .fin] (o1 (decide_eq_true c1022) (o1 c1023 (o1 c1022 (o1 (decide_eq_true c1024) (o1 (rfl : true = true) on))))) (by kernel_rfl)
            · replace h := (if_neg c1024).symm.trans h
              by_cases c1025 : 99 < (rdD z69 a1 v320).f0
              · replace h := (if_pos c1025).symm.trans h
                cases h
                exact byRet MX Tryz.func91 1000 [.b true, .dec 25 false, .dec 30 true, .b true, .fin] (o1 (decide_eq_true c1022) (o1 c1023 (o1 c1022 (o1 (decide_eq_false c1024) (o1 (decide_eq_true c1025) (o1 (rfl : true = true) on)))))) (by kernel_rfl)
              · replace h := (if_neg c1025).symm.trans h
                by_cases c1026 : 0 < v320
                · replace h := (if_pos c1026).symm.trans h
                  obtain ⟨c1027, h⟩ := ifN h
                  obtain ⟨c1028, h⟩ := ifN h
                  by_cases c1029 : (rdD z69 a1 v320).f0 ≤ (rdD z69 a1 (w64 (v320 - 1))).f0
                  · replace h := (if_pos c1029).symm.trans h
                    cases h
                    exact byRet MX Tryz.func91 1000 [.b true, .dec 25 false, .dec 30 false, .dec 33 true, .dec 45 true, .b true, .fin] (o1 (decide_eq_true c1022) (o1 c1023 (o1 c1022 (o1 (decide_eq_false c1024) (o1 (decide_eq_false c1025) (o1 (decide_eq_true c1026) (o1 c1027 (o1 c1028 (o1 (decide_eq_true c1029) (o1 (rfl : true = true) on)))))))))) (by kernel_rfl)
                  · replace h := (if_neg c1029).symm.trans h
                    obtain ⟨t321, g1030, h⟩ := bindN h
                    let C1030 := mkCon (impl_isFree.ok a0 ((rdD z69 a1 v320).f1) t321 g1030) impl_isFree.go
                    by_cases c1031 : t321 = true
                    · replace h := (if_pos c1031).symm.trans h
                      by_cases c1032 : (rdD z69 a1 v320).f2 = (-1)
                      · replace h := (if_pos c1032).symm.trans h
                        exact byHead MX Tryz.func91 1000 [.b true, .dec 25 false, .dec 30 false, .dec 33 true, .dec 45 false, .call C1030, .dec 52 false, .dec 56 false, .b false, .fin] (o1 (decide_eq_true c1022) (o1 c1023 (o1 c1022 (o1 (decide_eq_false c1024) (o1 (decide_eq_false c1025) (o1 (decide_eq_true c1026) (o1 c1027 (o1 c1028 (o1 (decide_eq_false c1029) (oa (sc_ C1030) (o1 (bnf c1031) (o1 (bnf (decide_eq_true c1032)) (o1 (rfl : false = false) on))))))))))))) (ih (w64 (v320 + 1)) h) (by kernel_rfl)
                      · replace h := (if_neg c1032).symm.trans h
                        obtain ⟨t356, g1137, h⟩ := bindN h
                        let C1137 := mkCon (impl_Beside.ok kq a0 ((rdD z69 a1 v320).f1) ((rdD z69 a1 v320).f2) t356 g1137) impl_Beside.go
                        by_cases c1138 : t356 = true
                        · replace h := (if_pos c1138).symm.trans h
                          exact byHead MX Tryz.func91 1000 [.b true, .dec 25 false, .dec 30 false, .dec 33 true, .dec 45 false, .call C1030, .dec 52 false, .dec 56 true, .call C1137, .b false, .fin] (o1 (decide_eq_true c1022) (o1 c1023 (o1 c1022 (o1 (decide_eq_false c1024) (o1 (decide_eq_false c1025) (o1 (decide_eq_true c1026) (o1 c1027 (o1 c1028 (o1 (decide_eq_false c1029) (oa (sc_ C1030) (o1 (bnf c1031) (o1 (bnt (decide_eq_false c1032)) (oa (sc_ C1137) (o1 (bnf c1138) on)))))))))))))) (ih (w64 (v320 + 1)) h) (by kernel_rfl)
                        · replace h := (if_neg c1138).symm.trans h
                          cases h
                          exact byRet MX Tryz.func91 1000 [.b true, .dec 25 false, .dec 30 false, .dec 33 true, .dec 45 false, .call C1030, .dec 52 false, .dec 56 true, .call C1137, .b true, .fin] (o1 (decide_eq_true c1022) (o1 c1023 (o1 c1022 (o1 (decide_eq_false c1024) (o1 (decide_eq_false c1025) (o1 (decide_eq_true c1026) (o1 c1027 (o1 c1028 (o1 (decide_eq_false c1029) (oa (sc_ C1030) (o1 (bnf c1031) (o1 (bnt (decide_eq_false c1032)) (oa (sc_ C1137) (o1 (bnt (eqf c1138)) on)))))))))))))) (by kernel_rfl)
                    · replace h := (if_neg c1031).symm.trans h
                      cases h
                      exact byRet MX Tryz.func91 1000 [.b true, .dec 25 false, .dec 30 false, .dec 33 true, .dec 45 false, .call C1030, .dec 52 true, .b true, .fin] (o1 (decide_eq_true c1022) (o1 c1023 (o1 c1022 (o1 (decide_eq_false c1024) (o1 (decide_eq_false c1025) (o1 (decide_eq_true c1026) (o1 c1027 (o1 c1028 (o1 (decide_eq_false c1029) (oa (sc_ C1030) (o1 (bnt (eqf c1031)) (o1 (rfl : true = true) on)))))))))))) (by kernel_rfl)
                · replace h := (if_neg c1026).symm.trans h
                  obtain ⟨t357, g1139, h⟩ := bindN h
                  let C1139 := mkCon (impl_isFree.ok a0 ((rdD z69 a1 v320).f1) t357 g1139) impl_isFree.go
                  by_cases c1140 : t357 = true
                  · replace h := (if_pos c1140).symm.trans h
                    by_cases c1141 : (rdD z69 a1 v320).f2 = (-1)
                    · replace h := (if_pos c1141).symm.trans h
                      exact byHead MX Tryz.func91 1000 [.b true, .dec 25 false, .dec 30 false, .dec 33 false, .call C1139, .dec 52 false, .dec 56 false, .b false, .fin] (o1 (decide_eq_true c1022) (o1 c1023 (o1 c1022 (o1 (decide_eq_false c1024) (o1 (decide_eq_false c1025) (o1 (decide_eq_false c1026) (oa (sc_ C1139) (o1 (bnf c1140) (o1 (bnf (decide_eq_true c1141)) (o1 (rfl : false = false) on)))))))))) (ih (w64 (v320 + 1)) h) (by kernel_rfl)
                    · replace h := (if_neg c1141).symm.trans h
                      obtain ⟨t358, g1142, h⟩ := bindN h
                      let C1142 := mkCon (impl_Beside.ok kq a0 ((rdD z69 a1 v320).f1) ((rdD z69 a1 v320).f2) t358 g1142) impl_Beside.go
                      by_cases c1143 : t358 = true
                      · replace h := (if_pos c1143).symm.trans h
                        exact byHead MX Tryz.func91 1000 [.b true, .dec 25 false, .dec 30 false, .dec 33 false, .call C1139, .dec 52 false, .dec 56 true, .call C1142, .b false, .fin] (o1 (decide_eq_true c1022) (o1 c1023 (o1 c1022 (o1 (decide_eq_false c1024) (o1 (decide_eq_false c1025) (o1 (decide_eq_false c1026) (oa (sc_ C1139) (o1 (bnf c1140) (o1 (bnt (decide_eq_false c1141)) (oa (sc_ C1142) (o1 (bnf c1143) on))))))))))) (ih (w64 (v320 + 1)) h) (by kernel_rfl)
                      · replace h := (if_neg c1143).symm.trans h
                        cases h
                        exact byRet MX Tryz.func91 1000 [.b true, .dec 25 false, .dec 30 false, .dec 33 false, .call C1139, .dec 52 false, .dec 56 true, .call C1142, .b true, .fin] (o1 (decide_eq_true c1022) (o1 c1023 (o1 c1022 (o1 (decide_eq_false c1024) (o1 (decide_eq_false c1025) (o1 (decide_eq_false c1026) (oa (sc_ C1139) (o1 (bnf c1140) (o1 (bnt (decide_eq_false c1141)) (oa (sc_ C1142) (o1 (bnt (eqf c1143)) on))))))))))) (by kernel_rfl)
                  · replace h := (if_neg c1140).symm.trans h
                    cases h
                    exact byRet MX Tryz.func91 1000 [.b true, .dec 25 false, .dec 30 false, .dec 33 false, .call C1139, .dec 52 true, .b true, .fin] (o1 (decide_eq_true c1022) (o1 c1023 (o1 c1022 (o1 (decide_eq_false c1024) (o1 (decide_eq_false c1025) (o1 (decide_eq_false c1026) (oa (sc_ C1139) (o1 (bnt (eqf c1140)) (o1 (rfl : true = true) on))))))))) (by kernel_rfl)
          · replace h := (if_neg c1022).symm.trans h
            obtain ⟨t421, g1345, h⟩ := bindN h
            let C1345 := mkCon (impl_areApart.ok kq a1 t421 g1345) impl_areApart.go
            cases h
            exact byRet MX Tryz.func91 1000 [.b false, .fin, .call C1345, .fin] (o1 (decide_eq_false c1022) (oa (sc_ C1345) on)) (by kernel_rfl)
      exact byHead MX Tryz.func91 1000 [.call C1007, .dec 10 false, .b false, .fin] (oa (sc_ C1007) (o1 (bnf c1008) (o1 (decide_eq_false c1009) on))) (H0 k 0 h) (by kernel_rfl)
  · replace h := (if_neg c1008).symm.trans h
    cases h
    exact byRet MX Tryz.func91 1000 [.call C1007, .dec 10 true, .b true, .fin] (oa (sc_ C1007) (o1 (bnt (eqf c1008)) (o1 (rfl : true = true) on))) (by kernel_rfl)

/-! ### impl_WindowOk_1: function 162 -/
def impl_WindowOk_1.f (a0 : Int) (a1 : S42) : Option Bool := if a0 < 0 then (some true) else (some (decide (a1.f1 < a0)))
theorem impl_WindowOk_1.go : Callable Tryz.prog 162 := ⟨_, Tryz.func162, by kernel_rfl, rfl⟩
theorem impl_WindowOk_1.ok (a0 : Int) (a1 : S42) (r : Bool) (h : impl_WindowOk_1.f a0 a1 = some r) : VCalls Tryz.prog 162 [.c (.sc (.int .i64 a0)), .ptr [.sc (.int .i64 a1.f0), .sc (.int .i64 a1.f1), R 1 (eI .i64) 0 a1.f2]] [.c (.p (.sc (.bool r)))] := by
  unfold impl_WindowOk_1.f at h
  refine VCalls.of (fn := Tryz.f162) (N := 12) Tryz.func162 rfl rfl (fun w0 => ?_)
  by_cases c1353 : a0 < 0
  · replace h := (if_pos c1353).symm.trans h
    cases h
    exact byRet MX Tryz.func162 1000 [.dec 6 true, .fin] (o1 (decide_eq_true c1353) on) (by kernel_rfl)
  · replace h := (if_neg c1353).symm.trans h
    cases h
    exact byRet MX Tryz.func162 1000 [.dec 6 false, .fin] (o1 (decide_eq_false c1353) on) (by kernel_rfl)

/-! ### slices_IndexFunc_int_int_3: function 182 -/
def slices_IndexFunc_int_int_3.h0T (a0 : List Int) (gi1 : FuncId) (u1_0_0 : V) (u1_0_1 : V) (u1_0_2 : V) (v424 : Int) : List (Nat × AV) := [(0, .t (.c (.p false (R 1 (eI .i64) 0 a0)))), (1, .bfn gi1 [[u1_0_0, u1_0_1, u1_0_2]]), (7, .t (.c (.p true (.sc (.int .i64 (a0.length : Int)))))), (8, .t (.c (.p true (.sc (.int .i64 v424)))))]
def slices_IndexFunc_int_int_3.h0H (a0 : List Int) (gi1 : FuncId) (u1_0_0 : V) (u1_0_1 : V) (u1_0_2 : V) (v424 : Int) : List (Nat × Content) := []
def slices_IndexFunc_int_int_3.l0 : Nat → List Int → (Int → Option Bool) → Int → Option Int
  | 0, _, _, _ => none
  | kq + 1, a0, p1, v424 => if v424 < (a0.length : Int) then (if 0 ≤ v424 then ((p1 (rdD 0 a0 v424)).bind fun t425 => if t425 = true then (some v424) else (slices_IndexFunc_int_int_3.l0 kq a0 p1 (w64 (v424 + 1)))) else none) else (some (-1))
def slices_IndexFunc_int_int_3.f (k : Nat) (a0 : List Int) (p1 : Int → Option Bool) : Option Int := slices_IndexFunc_int_int_3.l0 k a0 p1 0
theorem slices_IndexFunc_int_int_3.go : Callable Tryz.prog 182 := ⟨_, Tryz.func182, by kernel_rfl, rfl⟩
theorem slices_IndexFunc_int_int_3.ok (k : Nat) (a0 : List Int) (p1 : Int → Option Bool) (gi1 : FuncId) (u1_0_0 u1_0_1 u1_0_2 : V) (hp1 : ∀ x0 r, p1 x0 = some r → VCalls Tryz.prog gi1 [.c (.sc (.int .i64 x0)), .ptr [u1_0_0, u1_0_1, u1_0_2]] [.c (.p (.sc (.bool r)))]) (go1 : Callable Tryz.prog gi1) (r : Int) (h : slices_IndexFunc_int_int_3.f k a0 p1 = some r) : VCalls Tryz.prog 182 [.c (R 1 (eI .i64) 0 a0), .fn gi1 [[u1_0_0, u1_0_1, u1_0_2]]] [.c (.p (.sc (.int .i64 r)))] := by
  unfold slices_IndexFunc_int_int_3.f at h
  refine VCalls.of (fn := Tryz.f182) (N := 19) Tryz.func182 rfl rfl (fun w0 => ?_)
  have H0 : ∀ (kq : Nat) (v424 : Int), slices_IndexFunc_int_int_3.l0 kq a0 p1 v424 = some r → AG Tryz.prog 182 19 [.c (.p (.sc (.int .i64 r)))] w0 (headStk (codeOf Tryz.f182) 0) (mkFS (slices_IndexFunc_int_int_3.h0T a0 gi1 u1_0_0 u1_0_1 u1_0_2 v424) (slices_IndexFunc_int_int_3.h0H a0 gi1 u1_0_0 u1_0_1 u1_0_2 v424)) := by
    intro kq
    induction kq with
    | zero => intro v424 h; cases h
    | succ kq ih =>
      intro v424 h
      rw [slices_IndexFunc_int_int_3.l0] at h
      by_cases c1358 : v424 < (a0.length : Int)
      · replace h := (if_pos c1358).symm.trans h
        obtain ⟨c1359, h⟩ := ifN h
        obtain ⟨t425, g1360, h⟩ := bindN h
        let C1360 := mkCon (hp1 (rdD 0 a0 v424) t425 g1360) go1
        by_cases c1361 : t425 = true
        · replace h := (if_pos c1361).symm.trans h
          cases h
          exact byRet MX Tryz.func182 1000 [.b true, .call C1360, .b true, .fin] (o1 (decide_eq_true c1358) (o1 c1359 (o1 c1358 (oa (sc_ C1360) (o1 c1361 on))))) (by kernel_rfl)
        · replace h := (if_neg c1361).symm.trans h
          exact byHead MX Tryz.func182 1000 [.b true, .call C1360, .b false, .fin] (o1 (decide_eq_true c1358) (o1 c1359 (o1 c1358 (oa (sc_ C1360) (o1 (eqf c1361) on))))) (ih (w64 (v424 + 1)) h) (by kernel_rfl)
      · replace h := (if_neg c1358).symm.trans h
        cases h
        exact byRet MX Tryz.func182 1000 [.b false, .fin, .fin] (o1 (decide_eq_false c1358) on) (by kernel_rfl)
  exact byHead MX Tryz.func182 1000 [.fin] on (H0 k 0 h) (by kernel_rfl)

/-! ### slices_ContainsFunc_int_int_3: function 102 -/
def slices_ContainsFunc_int_int_3.f (k : Nat) (a0 : List Int) (p1 : Int → Option Bool) : Option Bool := (slices_IndexFunc_int_int_3.f k a0 p1).bind fun t426 => some (decide (0 ≤ t426))
theorem slices_ContainsFunc_int_int_3.go : Callable Tryz.prog 102 := ⟨_, Tryz.func102, by kernel_rfl, rfl⟩
theorem slices_ContainsFunc_int_int_3.ok (k : Nat) (a0 : List Int) (p1 : Int → Option Bool) (gi1 : FuncId) (u1_0_0 u1_0_1 u1_0_2 : V) (hp1 : ∀ x0 r, p1 x0 = some r → VCalls Tryz.prog gi1 [.c (.sc (.int .i64 x0)), .ptr [u1_0_0, u1_0_1, u1_0_2]] [.c (.p (.sc (.bool r)))]) (go1 : Callable Tryz.prog gi1) (r : Bool) (h : slices_ContainsFunc_int_int_3.f k a0 p1 = some r) : VCalls Tryz.prog 102 [.c (R 1 (eI .i64) 0 a0), .fn gi1 [[u1_0_0, u1_0_1, u1_0_2]]] [.c (.p (.sc (.bool r)))] := by
  unfold slices_ContainsFunc_int_int_3.f at h
  refine VCalls.of (fn := Tryz.f102) (N := 9) Tryz.func102 rfl rfl (fun w0 => ?_)
  obtain ⟨t426, g1362, h⟩ := bindN h
  let C1362 := mkCon (slices_IndexFunc_int_int_3.ok k a0 p1 gi1 u1_0_0 u1_0_1 u1_0_2 hp1 go1 t426 g1362) slices_IndexFunc_int_int_3.go
  cases h
  exact byRet MX Tryz.func102 1000 [.call C1362, .fin] (oa (sc_ C1362) on) (by kernel_rfl)

/-! ### impl_WindowOk: function 92 -/
def impl_WindowOk.f (k : Nat) (a0 : S42) : Option Bool := if a0.f0 < 1 then (some false) else (if 8 < a0.f0 then (some false) else (if a0.f1 < 1 then (some false) else (if 100 < a0.f1 then (some false) else (if (a0.f2.length : Int) = (w64 (a0.f0 * 6)) then ((slices_ContainsFunc_int_int_3.f k a0.f2 (fun x1354 => impl_WindowOk_1.f x1354 a0)).bind fun t427 => some (!t427)) else (some false)))))
theorem impl_WindowOk.go : Callable Tryz.prog 92 := ⟨_, Tryz.func92, by kernel_rfl, rfl⟩
theorem impl_WindowOk.ok (k : Nat) (a0 : S42) (r : Bool) (h : impl_WindowOk.f k a0 = some r) : VCalls Tryz.prog 92 [.agg (e42 a0)] [.c (.p (.sc (.bool r)))] := by
  unfold impl_WindowOk.f at h
  refine VCalls.of (fn := Tryz.f92) (N := 35) Tryz.func92 rfl rfl (fun w0 => ?_)
  by_cases c1348 : a0.f0 < 1
  · replace h := (if_pos c1348).symm.trans h
    cases h
    exact byRet MX Tryz.func92 1000 [.dec 6 true, .b true, .fin] (o1 (decide_eq_true c1348) (o1 (rfl : true = true) on)) (by kernel_rfl)
  · replace h := (if_neg c1348).symm.trans h
    by_cases c1349 : 8 < a0.f0
    · replace h := (if_pos c1349).symm.trans h
      cases h
      exact byRet MX Tryz.func92 1000 [.dec 6 false, .dec 11 true, .b true, .fin] (o1 (decide_eq_false c1348) (o1 (decide_eq_true c1349) (o1 (rfl : true = true) on))) (by kernel_rfl)
    · replace h := (if_neg c1349).symm.trans h
      by_cases c1350 : a0.f1 < 1
      · replace h := (if_pos c1350).symm.trans h
        cases h
        exact byRet MX Tryz.func92 1000 [.dec 6 false, .dec 11 false, .dec 16 true, .b true, .fin] (o1 (decide_eq_false c1348) (o1 (decide_eq_false c1349) (o1 (decide_eq_true c1350) (o1 (rfl : true = true) on)))) (by kernel_rfl)
      · replace h := (if_neg c1350).symm.trans h
        by_cases c1351 : 100 < a0.f1
        · replace h := (if_pos c1351).symm.trans h
          cases h
          exact byRet MX Tryz.func92 1000 [.dec 6 false, .dec 11 false, .dec 16 false, .dec 21 true, .b true, .fin] (o1 (decide_eq_false c1348) (o1 (decide_eq_false c1349) (o1 (decide_eq_false c1350) (o1 (decide_eq_true c1351) (o1 (rfl : true = true) on))))) (by kernel_rfl)
        · replace h := (if_neg c1351).symm.trans h
          by_cases c1352 : (a0.f2.length : Int) = (w64 (a0.f0 * 6))
          · replace h := (if_pos c1352).symm.trans h
            obtain ⟨t427, g1363, h⟩ := bindN h
            let C1363 := mkCon (slices_ContainsFunc_int_int_3.ok k a0.f2 (fun x1354 => impl_WindowOk_1.f x1354 a0) 162 (.sc (.int .i64 a0.f0)) (.sc (.int .i64 a0.f1)) (R 1 (eI .i64) 0 a0.f2) (fun x1354 r h => impl_WindowOk_1.ok x1354 a0 r h) impl_WindowOk_1.go t427 g1363) slices_ContainsFunc_int_int_3.go
            cases h
            exact byRet MX Tryz.func92 1000 [.dec 6 false, .dec 11 false, .dec 16 false, .dec 21 false, .b false, .call C1363, .fin] (o1 (decide_eq_false c1348) (o1 (decide_eq_false c1349) (o1 (decide_eq_false c1350) (o1 (decide_eq_false c1351) (o1 (bnf (decide_eq_true c1352)) (oa (sc_ C1363) on)))))) (by kernel_rfl)
          · replace h := (if_neg c1352).symm.trans h
            cases h
            exact byRet MX Tryz.func92 1000 [.dec 6 false, .dec 11 false, .dec 16 false, .dec 21 false, .b true, .fin] (o1 (decide_eq_false c1348) (o1 (decide_eq_false c1349) (o1 (decide_eq_false c1350) (o1 (decide_eq_false c1351) (o1 (bnt (decide_eq_false c1352)) on))))) (by kernel_rfl)

/-! ### impl_jobsOk_1: function 210 -/
def impl_jobsOk_1.f (a0 : S72) (a1 : S45) : Option Bool := some (!decide ((a0.f0.length : Int) = (w64 (a1.f0 + 1))))
theorem impl_jobsOk_1.go : Callable Tryz.prog 210 := ⟨_, Tryz.func210, by kernel_rfl, rfl⟩
theorem impl_jobsOk_1.ok (a0 : S72) (a1 : S45) (r : Bool) (h : impl_jobsOk_1.f a0 a1 = some r) : VCalls Tryz.prog 210 [.agg (e72 a0), .ptr [.sc (.int .i64 a1.f0), .sc (.int .i64 a1.f1), R 1 e72 z72 a1.f2]] [.c (.p (.sc (.bool r)))] := by
  unfold impl_jobsOk_1.f at h
  refine VCalls.of (fn := Tryz.f210) (N := 11) Tryz.func210 rfl rfl (fun w0 => ?_)
  cases h
  exact byRet MX Tryz.func210 1000 [.fin] on (by kernel_rfl)

/-! ### slices_IndexFunc_impl_Way_impl_Way_3: function 236 -/
def slices_IndexFunc_impl_Way_impl_Way_3.h0T (a0 : List S72) (gi1 : FuncId) (u1_0_0 : V) (u1_0_1 : V) (u1_0_2 : V) (v430 : Int) : List (Nat × AV) := [(0, .t (.c (.p false (R 1 e72 z72 a0)))), (1, .bfn gi1 [[u1_0_0, u1_0_1, u1_0_2]]), (7, .t (.c (.p true (.sc (.int .i64 (a0.length : Int)))))), (8, .t (.c (.p true (.sc (.int .i64 v430)))))]
def slices_IndexFunc_impl_Way_impl_Way_3.h0H (a0 : List S72) (gi1 : FuncId) (u1_0_0 : V) (u1_0_1 : V) (u1_0_2 : V) (v430 : Int) : List (Nat × Content) := []
def slices_IndexFunc_impl_Way_impl_Way_3.l0 : Nat → List S72 → (S72 → Option Bool) → Int → Option Int
  | 0, _, _, _ => none
  | kq + 1, a0, p1, v430 => if v430 < (a0.length : Int) then (if 0 ≤ v430 then ((p1 (rdD z72 a0 v430)).bind fun t431 => if t431 = true then (some v430) else (slices_IndexFunc_impl_Way_impl_Way_3.l0 kq a0 p1 (w64 (v430 + 1)))) else none) else (some (-1))
def slices_IndexFunc_impl_Way_impl_Way_3.f (k : Nat) (a0 : List S72) (p1 : S72 → Option Bool) : Option Int := slices_IndexFunc_impl_Way_impl_Way_3.l0 k a0 p1 0
theorem slices_IndexFunc_impl_Way_impl_Way_3.go : Callable Tryz.prog 236 := ⟨_, Tryz.func236, by kernel_rfl, rfl⟩
theorem slices_IndexFunc_impl_Way_impl_Way_3.ok (k : Nat) (a0 : List S72) (p1 : S72 → Option Bool) (gi1 : FuncId) (u1_0_0 u1_0_1 u1_0_2 : V) (hp1 : ∀ x0 r, p1 x0 = some r → VCalls Tryz.prog gi1 [.agg (e72 x0), .ptr [u1_0_0, u1_0_1, u1_0_2]] [.c (.p (.sc (.bool r)))]) (go1 : Callable Tryz.prog gi1) (r : Int) (h : slices_IndexFunc_impl_Way_impl_Way_3.f k a0 p1 = some r) : VCalls Tryz.prog 236 [.c (R 1 e72 z72 a0), .fn gi1 [[u1_0_0, u1_0_1, u1_0_2]]] [.c (.p (.sc (.int .i64 r)))] := by
  unfold slices_IndexFunc_impl_Way_impl_Way_3.f at h
  refine VCalls.of (fn := Tryz.f236) (N := 19) Tryz.func236 rfl rfl (fun w0 => ?_)
  have H0 : ∀ (kq : Nat) (v430 : Int), slices_IndexFunc_impl_Way_impl_Way_3.l0 kq a0 p1 v430 = some r → AG Tryz.prog 236 19 [.c (.p (.sc (.int .i64 r)))] w0 (headStk (codeOf Tryz.f236) 0) (mkFS (slices_IndexFunc_impl_Way_impl_Way_3.h0T a0 gi1 u1_0_0 u1_0_1 u1_0_2 v430) (slices_IndexFunc_impl_Way_impl_Way_3.h0H a0 gi1 u1_0_0 u1_0_1 u1_0_2 v430)) := by
    intro kq
    induction kq with
    | zero => intro v430 h; cases h
    | succ kq ih =>
      intro v430 h
      rw [slices_IndexFunc_impl_Way_impl_Way_3.l0] at h
      by_cases c1380 : v430 < (a0.length : Int)
      · replace h := (if_pos c1380).symm.trans h
        obtain ⟨c1381, h⟩ := ifN h
        obtain ⟨t431, g1382, h⟩ := bindN h
        let C1382 := mkCon (hp1 (rdD z72 a0 v430) t431 g1382) go1
        by_cases c1383 : t431 = true
        · replace h := (if_pos c1383).symm.trans h
          cases h
          exact byRet MX Tryz.func236 1000 [.b true, .call C1382, .b true, .fin] (o1 (decide_eq_true c1380) (o1 c1381 (o1 c1380 (oa (sc_ C1382) (o1 c1383 on))))) (by kernel_rfl)
        · replace h := (if_neg c1383).symm.trans h
          exact byHead MX Tryz.func236 1000 [.b true, .call C1382, .b false, .fin] (o1 (decide_eq_true c1380) (o1 c1381 (o1 c1380 (oa (sc_ C1382) (o1 (eqf c1383) on))))) (ih (w64 (v430 + 1)) h) (by kernel_rfl)
      · replace h := (if_neg c1380).symm.trans h
        cases h
        exact byRet MX Tryz.func236 1000 [.b false, .fin, .fin] (o1 (decide_eq_false c1380) on) (by kernel_rfl)
  exact byHead MX Tryz.func236 1000 [.fin] on (H0 k 0 h) (by kernel_rfl)

/-! ### slices_ContainsFunc_impl_Way_impl_Way_3: function 209 -/
def slices_ContainsFunc_impl_Way_impl_Way_3.f (k : Nat) (a0 : List S72) (p1 : S72 → Option Bool) : Option Bool := (slices_IndexFunc_impl_Way_impl_Way_3.f k a0 p1).bind fun t432 => some (decide (0 ≤ t432))
theorem slices_ContainsFunc_impl_Way_impl_Way_3.go : Callable Tryz.prog 209 := ⟨_, Tryz.func209, by kernel_rfl, rfl⟩
theorem slices_ContainsFunc_impl_Way_impl_Way_3.ok (k : Nat) (a0 : List S72) (p1 : S72 → Option Bool) (gi1 : FuncId) (u1_0_0 u1_0_1 u1_0_2 : V) (hp1 : ∀ x0 r, p1 x0 = some r → VCalls Tryz.prog gi1 [.agg (e72 x0), .ptr [u1_0_0, u1_0_1, u1_0_2]] [.c (.p (.sc (.bool r)))]) (go1 : Callable Tryz.prog gi1) (r : Bool) (h : slices_ContainsFunc_impl_Way_impl_Way_3.f k a0 p1 = some r) : VCalls Tryz.prog 209 [.c (R 1 e72 z72 a0), .fn gi1 [[u1_0_0, u1_0_1, u1_0_2]]] [.c (.p (.sc (.bool r)))] := by
  unfold slices_ContainsFunc_impl_Way_impl_Way_3.f at h
  refine VCalls.of (fn := Tryz.f209) (N := 9) Tryz.func209 rfl rfl (fun w0 => ?_)
  obtain ⟨t432, g1384, h⟩ := bindN h
  let C1384 := mkCon (slices_IndexFunc_impl_Way_impl_Way_3.ok k a0 p1 gi1 u1_0_0 u1_0_1 u1_0_2 hp1 go1 t432 g1384) slices_IndexFunc_impl_Way_impl_Way_3.go
  cases h
  exact byRet MX Tryz.func209 1000 [.call C1384, .fin] (oa (sc_ C1384) on) (by kernel_rfl)

/-! ### impl_compare: function 113 -/
def impl_compare.f (a0 : Int) (a1 : Int) : Option Int := if a0 < a1 then (some (-1)) else (if a1 < a0 then (some 1) else (some 0))
theorem impl_compare.go : Callable Tryz.prog 113 := ⟨_, Tryz.func113, by kernel_rfl, rfl⟩
theorem impl_compare.ok (a0 : Int) (a1 : Int) (r : Int) (h : impl_compare.f a0 a1 = some r) : VCalls Tryz.prog 113 [.c (.sc (.int .i64 a0)), .c (.sc (.int .i64 a1))] [.c (.p (.sc (.int .i64 r)))] := by
  unfold impl_compare.f at h
  refine VCalls.of (fn := Tryz.f113) (N := 13) Tryz.func113 rfl rfl (fun w0 => ?_)
  by_cases c1388 : a0 < a1
  · replace h := (if_pos c1388).symm.trans h
    cases h
    exact byRet MX Tryz.func113 1000 [.b true, .fin] (o1 (decide_eq_true c1388) on) (by kernel_rfl)
  · replace h := (if_neg c1388).symm.trans h
    by_cases c1389 : a1 < a0
    · replace h := (if_pos c1389).symm.trans h
      cases h
      exact byRet MX Tryz.func113 1000 [.b false, .b true, .fin] (o1 (decide_eq_false c1388) (o1 (decide_eq_true c1389) on)) (by kernel_rfl)
    · replace h := (if_neg c1389).symm.trans h
      cases h
      exact byRet MX Tryz.func113 1000 [.b false, .b false, .fin] (o1 (decide_eq_false c1388) (o1 (decide_eq_false c1389) on)) (by kernel_rfl)

/-! ### impl_LayerOf_1: function 112 -/
def impl_LayerOf_1.f (a0 : S74) (a1 : S74) : Option Int := (impl_compare.f a0.f1 a1.f1).bind fun t434 => some t434
theorem impl_LayerOf_1.go : Callable Tryz.prog 112 := ⟨_, Tryz.func112, by kernel_rfl, rfl⟩
theorem impl_LayerOf_1.ok (a0 : S74) (a1 : S74) (r : Int) (h : impl_LayerOf_1.f a0 a1 = some r) : VCalls Tryz.prog 112 [.agg (e74 a0), .agg (e74 a1)] [.c (.p (.sc (.int .i64 r)))] := by
  unfold impl_LayerOf_1.f at h
  refine VCalls.of (fn := Tryz.f112) (N := 10) Tryz.func112 rfl rfl (fun w0 => ?_)
  obtain ⟨t434, g1390, h⟩ := bindN h
  let C1390 := mkCon (impl_compare.ok a0.f1 a1.f1 t434 g1390) impl_compare.go
  cases h
  exact byRet MX Tryz.func112 1000 [.call C1390, .fin] (oa (sc_ C1390) on) (by kernel_rfl)

/-! ### slices_MinFunc_impl_Job_impl_Job_: function 111 -/
def slices_MinFunc_impl_Job_impl_Job_.h0T (a0 : List S74) (gi1 : FuncId) (v448 : Int) (v445 : Int) (v446 : Int) (v447 : Bool) : List (Nat × AV) := [(0, .t (.c (.p false (R 3 e74 z74 a0)))), (1, .bfn gi1 []), (4, .ptr 256 0), (5, .ptr 320 0), (6, .t (.c (.p true (.sc (.int .i64 v448)))))]
def slices_MinFunc_impl_Job_impl_Job_.h0H (a0 : List S74) (gi1 : FuncId) (v448 : Int) (v445 : Int) (v446 : Int) (v447 : Bool) : List (Nat × Content) := [(256, .box 74 [.p true (.sc (.int .i64 0)), .p true (.sc (.int .i64 0)), .p true (.sc (.bool false))]), (320, .box 74 [.p false (.sc (.int .i64 v445)), .p false (.sc (.int .i64 v446)), .p false (.sc (.bool v447))])]
def slices_MinFunc_impl_Job_impl_Job_.l0 : Nat → List S74 → (S74 → S74 → Option Int) → Int → Int → Bool → Int → Option S74
  | 0, _, _, _, _, _, _ => none
  | kq + 1, a0, p1, v445, v446, v447, v448 => if v448 < (a0.length : Int) then (if 0 ≤ v448 then ((p1 (rdD z74 a0 v448) (⟨v445, v446, v447⟩ : S74)).bind fun t449 => if t449 < 0 then (slices_MinFunc_impl_Job_impl_Job_.l0 kq a0 p1 ((rdD z74 a0 v448).f0) ((rdD z74 a0 v448).f1) ((rdD z74 a0 v448).f2) (w64 (v448 + 1))) else (slices_MinFunc_impl_Job_impl_Job_.l0 kq a0 p1 v445 v446 v447 (w64 (v448 + 1)))) else none) else (some (⟨v445, v446, v447⟩ : S74))
def slices_MinFunc_impl_Job_impl_Job_.f (k : Nat) (a0 : List S74) (p1 : S74 → S74 → Option Int) : Option S74 := if (a0.length : Int) < 1 then (none) else (if 0 < (a0.length : Int) then (slices_MinFunc_impl_Job_impl_Job_.l0 k a0 p1 ((rdD z74 a0 0).f0) ((rdD z74 a0 0).f1) ((rdD z74 a0 0).f2) 1) else none)
theorem slices_MinFunc_impl_Job_impl_Job_.go : Callable Tryz.prog 111 := ⟨_, Tryz.func111, by kernel_rfl, rfl⟩
theorem slices_MinFunc_impl_Job_impl_Job_.ok (k : Nat) (a0 : List S74) (p1 : S74 → S74 → Option Int) (gi1 : FuncId) (hp1 : ∀ x0 x1 r, p1 x0 x1 = some r → VCalls Tryz.prog gi1 [.agg (e74 x0), .agg (e74 x1)] [.c (.p (.sc (.int .i64 r)))]) (go1 : Callable Tryz.prog gi1) (r : S74) (h : slices_MinFunc_impl_Job_impl_Job_.f k a0 p1 = some r) : VCalls Tryz.prog 111 [.c (R 3 e74 z74 a0), .fn gi1 []] [.agg (r74 r)] := by
  unfold slices_MinFunc_impl_Job_impl_Job_.f at h
  refine VCalls.of (fn := Tryz.f111) (N := 33) Tryz.func111 rfl rfl (fun w0 => ?_)
  by_cases c1393 : (a0.length : Int) < 1
  · replace h := (if_pos c1393).symm.trans h
    cases h
  · replace h := (if_neg c1393).symm.trans h
    obtain ⟨c1394, h⟩ := ifN h
    have H0 : ∀ (kq : Nat) (v445 : Int) (v446 : Int) (v447 : Bool) (v448 : Int), slices_MinFunc_impl_Job_impl_Job_.l0 kq a0 p1 v445 v446 v447 v448 = some r → AG Tryz.prog 111 33 [.agg (r74 r)] w0 (headStk (codeOf Tryz.f111) 0) (mkFS (slices_MinFunc_impl_Job_impl_Job_.h0T a0 gi1 v448 v445 v446 v447) (slices_MinFunc_impl_Job_impl_Job_.h0H a0 gi1 v448 v445 v446 v447)) := by
      intro kq
      induction kq with
      | zero => intro v445 v446 v447 v448 h; cases h
      | succ kq ih =>
        intro v445 v446 v447 v448 h
        rw [slices_MinFunc_impl_Job_impl_Job_.l0] at h
        by_cases c1410 : v448 < (a0.length : Int)
        · replace h := (if_pos c1410).symm.trans h
          obtain ⟨c1411, h⟩ := ifN h
          obtain ⟨t449, g1412, h⟩ := bindN h
          let C1412 := mkCon (hp1 (rdD z74 a0 v448) (⟨v445, v446, v447⟩ : S74) t449 g1412) go1
          by_cases c1413 : t449 < 0
          · replace h := (if_pos c1413).symm.trans h
            exact byHead MX Tryz.func111 1000 [.b true, .call C1412, .b true, .fin] (o1 (decide_eq_true c1410) (o1 c1411 (o1 c1410 (oa (sc_ C1412) (o1 (decide_eq_true c1413) (o1 c1411 (o1 c1410 on))))))) (ih ((rdD z74 a0 v448).f0) ((rdD z74 a0 v448).f1) ((rdD z74 a0 v448).f2) (w64 (v448 + 1)) h) (by kernel_rfl)
          · replace h := (if_neg c1413).symm.trans h
            exact byHead MX Tryz.func111 1000 [.b true, .call C1412, .b false, .fin] (o1 (decide_eq_true c1410) (o1 c1411 (o1 c1410 (oa (sc_ C1412) (o1 (decide_eq_false c1413) on))))) (ih v445 v446 v447 (w64 (v448 + 1)) h) (by kernel_rfl)
        · replace h := (if_neg c1410).symm.trans h
          cases h
          exact byRet MX Tryz.func111 1000 [.b false, .fin, .fin] (o1 (decide_eq_false c1410) on) (by kernel_rfl)
    exact byHead MX Tryz.func111 1000 [.b false, .fin] (o1 (decide_eq_false c1393) (o1 (by decide : (0 : Int) ≤ 0) (o1 c1394 on))) (H0 k ((rdD z74 a0 0).f0) ((rdD z74 a0 0).f1) ((rdD z74 a0 0).f2) 1 h) (by kernel_rfl)

/-! ### impl_LayerOf: function 53 -/
def impl_LayerOf.f (k : Nat) (a0 : S48) : Option Int := if (a0.f6.length : Int) = 0 then (some (-1)) else ((slices_MinFunc_impl_Job_impl_Job_.f k a0.f6 (fun x1391 x1392 => impl_LayerOf_1.f x1391 x1392)).bind fun t450 => some t450.f1)
theorem impl_LayerOf.go : Callable Tryz.prog 53 := ⟨_, Tryz.func53, by kernel_rfl, rfl⟩
theorem impl_LayerOf.ok (k : Nat) (a0 : S48) (r : Int) (h : impl_LayerOf.f k a0 = some r) : VCalls Tryz.prog 53 [.agg (e48 a0)] [.c (.p (.sc (.int .i64 r)))] := by
  unfold impl_LayerOf.f at h
  refine VCalls.of (fn := Tryz.f53) (N := 11) Tryz.func53 rfl rfl (fun w0 => ?_)
  by_cases c1387 : (a0.f6.length : Int) = 0
  · replace h := (if_pos c1387).symm.trans h
    cases h
    exact byRet MX Tryz.func53 1000 [.b true, .fin] (o1 (decide_eq_true c1387) on) (by kernel_rfl)
  · replace h := (if_neg c1387).symm.trans h
    obtain ⟨t450, g1414, h⟩ := bindN h
    let C1414 := mkCon (slices_MinFunc_impl_Job_impl_Job_.ok k a0.f6 (fun x1391 x1392 => impl_LayerOf_1.f x1391 x1392) 112  (fun x1391 x1392 r h => impl_LayerOf_1.ok x1391 x1392 r h) impl_LayerOf_1.go t450 g1414) slices_MinFunc_impl_Job_impl_Job_.go
    cases h
    exact byRet MX Tryz.func53 1000 [.b false, .call C1414, .fin] (o1 (decide_eq_false c1387) (oa (sc_ C1414) on)) (by kernel_rfl)

/-! ### impl_RobotAt_1: function 124 -/
def impl_RobotAt_1.f (a0 : S69) (a1 : Int) : Option Bool := some (decide (a0.f0 = a1))
theorem impl_RobotAt_1.go : Callable Tryz.prog 124 := ⟨_, Tryz.func124, by kernel_rfl, rfl⟩
theorem impl_RobotAt_1.ok (a0 : S69) (a1 : Int) (r : Bool) (h : impl_RobotAt_1.f a0 a1 = some r) : VCalls Tryz.prog 124 [.agg (e69 a0), .ptr [.sc (.int .i64 a1)]] [.c (.p (.sc (.bool r)))] := by
  unfold impl_RobotAt_1.f at h
  refine VCalls.of (fn := Tryz.f124) (N := 8) Tryz.func124 rfl rfl (fun w0 => ?_)
  cases h
  exact byRet MX Tryz.func124 1000 [.fin] on (by kernel_rfl)

/-! ### slices_IndexFunc_impl_Robot_impl_Robot_1: function 123 -/
def slices_IndexFunc_impl_Robot_impl_Robot_1.h0T (a0 : List S69) (gi1 : FuncId) (u1_0_0 : V) (v453 : Int) : List (Nat × AV) := [(0, .t (.c (.p false (R 4 e69 z69 a0)))), (1, .bfn gi1 [[u1_0_0]]), (7, .t (.c (.p true (.sc (.int .i64 (a0.length : Int)))))), (8, .t (.c (.p true (.sc (.int .i64 v453)))))]
def slices_IndexFunc_impl_Robot_impl_Robot_1.h0H (a0 : List S69) (gi1 : FuncId) (u1_0_0 : V) (v453 : Int) : List (Nat × Content) := []
def slices_IndexFunc_impl_Robot_impl_Robot_1.l0 : Nat → List S69 → (S69 → Option Bool) → Int → Option Int
  | 0, _, _, _ => none
  | kq + 1, a0, p1, v453 => if v453 < (a0.length : Int) then (if 0 ≤ v453 then ((p1 (rdD z69 a0 v453)).bind fun t454 => if t454 = true then (some v453) else (slices_IndexFunc_impl_Robot_impl_Robot_1.l0 kq a0 p1 (w64 (v453 + 1)))) else none) else (some (-1))
def slices_IndexFunc_impl_Robot_impl_Robot_1.f (k : Nat) (a0 : List S69) (p1 : S69 → Option Bool) : Option Int := slices_IndexFunc_impl_Robot_impl_Robot_1.l0 k a0 p1 0
theorem slices_IndexFunc_impl_Robot_impl_Robot_1.go : Callable Tryz.prog 123 := ⟨_, Tryz.func123, by kernel_rfl, rfl⟩
theorem slices_IndexFunc_impl_Robot_impl_Robot_1.ok (k : Nat) (a0 : List S69) (p1 : S69 → Option Bool) (gi1 : FuncId) (u1_0_0 : V) (hp1 : ∀ x0 r, p1 x0 = some r → VCalls Tryz.prog gi1 [.agg (e69 x0), .ptr [u1_0_0]] [.c (.p (.sc (.bool r)))]) (go1 : Callable Tryz.prog gi1) (r : Int) (h : slices_IndexFunc_impl_Robot_impl_Robot_1.f k a0 p1 = some r) : VCalls Tryz.prog 123 [.c (R 4 e69 z69 a0), .fn gi1 [[u1_0_0]]] [.c (.p (.sc (.int .i64 r)))] := by
  unfold slices_IndexFunc_impl_Robot_impl_Robot_1.f at h
  refine VCalls.of (fn := Tryz.f123) (N := 19) Tryz.func123 rfl rfl (fun w0 => ?_)
  have H0 : ∀ (kq : Nat) (v453 : Int), slices_IndexFunc_impl_Robot_impl_Robot_1.l0 kq a0 p1 v453 = some r → AG Tryz.prog 123 19 [.c (.p (.sc (.int .i64 r)))] w0 (headStk (codeOf Tryz.f123) 0) (mkFS (slices_IndexFunc_impl_Robot_impl_Robot_1.h0T a0 gi1 u1_0_0 v453) (slices_IndexFunc_impl_Robot_impl_Robot_1.h0H a0 gi1 u1_0_0 v453)) := by
    intro kq
    induction kq with
    | zero => intro v453 h; cases h
    | succ kq ih =>
      intro v453 h
      rw [slices_IndexFunc_impl_Robot_impl_Robot_1.l0] at h
      by_cases c1424 : v453 < (a0.length : Int)
      · replace h := (if_pos c1424).symm.trans h
        obtain ⟨c1425, h⟩ := ifN h
        obtain ⟨t454, g1426, h⟩ := bindN h
        let C1426 := mkCon (hp1 (rdD z69 a0 v453) t454 g1426) go1
        by_cases c1427 : t454 = true
        · replace h := (if_pos c1427).symm.trans h
          cases h
          exact byRet MX Tryz.func123 1000 [.b true, .call C1426, .b true, .fin] (o1 (decide_eq_true c1424) (o1 c1425 (o1 c1424 (oa (sc_ C1426) (o1 c1427 on))))) (by kernel_rfl)
        · replace h := (if_neg c1427).symm.trans h
          exact byHead MX Tryz.func123 1000 [.b true, .call C1426, .b false, .fin] (o1 (decide_eq_true c1424) (o1 c1425 (o1 c1424 (oa (sc_ C1426) (o1 (eqf c1427) on))))) (ih (w64 (v453 + 1)) h) (by kernel_rfl)
      · replace h := (if_neg c1424).symm.trans h
        cases h
        exact byRet MX Tryz.func123 1000 [.b false, .fin, .fin] (o1 (decide_eq_false c1424) on) (by kernel_rfl)
  exact byHead MX Tryz.func123 1000 [.fin] on (H0 k 0 h) (by kernel_rfl)

/-! ### impl_RobotAt: function 61 -/
def impl_RobotAt.f (k : Nat) (a0 : List S69) (a1 : Int) : Option Int := (slices_IndexFunc_impl_Robot_impl_Robot_1.f k a0 (fun x1420 => impl_RobotAt_1.f x1420 a1)).bind fun t455 => some t455
theorem impl_RobotAt.go : Callable Tryz.prog 61 := ⟨_, Tryz.func61, by kernel_rfl, rfl⟩
theorem impl_RobotAt.ok (k : Nat) (a0 : List S69) (a1 : Int) (r : Int) (h : impl_RobotAt.f k a0 a1 = some r) : VCalls Tryz.prog 61 [.c (R 4 e69 z69 a0), .c (.sc (.int .i64 a1))] [.c (.p (.sc (.int .i64 r)))] := by
  unfold impl_RobotAt.f at h
  refine VCalls.of (fn := Tryz.f61) (N := 8) Tryz.func61 rfl rfl (fun w0 => ?_)
  obtain ⟨t455, g1428, h⟩ := bindN h
  let C1428 := mkCon (slices_IndexFunc_impl_Robot_impl_Robot_1.ok k a0 (fun x1420 => impl_RobotAt_1.f x1420 a1) 124 (.sc (.int .i64 a1)) (fun x1420 r h => impl_RobotAt_1.ok x1420 a1 r h) impl_RobotAt_1.go t455 g1428) slices_IndexFunc_impl_Robot_impl_Robot_1.go
  cases h
  exact byRet MX Tryz.func61 1000 [.call C1428, .fin] (oa (sc_ C1428) on) (by kernel_rfl)

/-! ### impl_isJob_1: function 237 -/
def impl_isJob_1.f (a0 : S74) (a1 : S74) : Option Bool := some (decide (a0.f0 = a1.f0))
theorem impl_isJob_1.go : Callable Tryz.prog 237 := ⟨_, Tryz.func237, by kernel_rfl, rfl⟩
theorem impl_isJob_1.ok (a0 : S74) (a1 : S74) (r : Bool) (h : impl_isJob_1.f a0 a1 = some r) : VCalls Tryz.prog 237 [.agg (e74 a0), .ptr [.sc (.int .i64 a1.f0), .sc (.int .i64 a1.f1), .sc (.bool a1.f2)]] [.c (.p (.sc (.bool r)))] := by
  unfold impl_isJob_1.f at h
  refine VCalls.of (fn := Tryz.f237) (N := 9) Tryz.func237 rfl rfl (fun w0 => ?_)
  cases h
  exact byRet MX Tryz.func237 1000 [.fin] on (by kernel_rfl)

/-! ### slices_IndexFunc_impl_Job_impl_Job_3: function 59 -/
def slices_IndexFunc_impl_Job_impl_Job_3.h0T (a0 : List S74) (gi1 : FuncId) (u1_0_0 : V) (u1_0_1 : V) (u1_0_2 : V) (v458 : Int) : List (Nat × AV) := [(0, .t (.c (.p false (R 3 e74 z74 a0)))), (1, .bfn gi1 [[u1_0_0, u1_0_1, u1_0_2]]), (7, .t (.c (.p true (.sc (.int .i64 (a0.length : Int)))))), (8, .t (.c (.p true (.sc (.int .i64 v458)))))]
def slices_IndexFunc_impl_Job_impl_Job_3.h0H (a0 : List S74) (gi1 : FuncId) (u1_0_0 : V) (u1_0_1 : V) (u1_0_2 : V) (v458 : Int) : List (Nat × Content) := []
def slices_IndexFunc_impl_Job_impl_Job_3.l0 : Nat → List S74 → (S74 → Option Bool) → Int → Option Int
  | 0, _, _, _ => none
  | kq + 1, a0, p1, v458 => if v458 < (a0.length : Int) then (if 0 ≤ v458 then ((p1 (rdD z74 a0 v458)).bind fun t459 => if t459 = true then (some v458) else (slices_IndexFunc_impl_Job_impl_Job_3.l0 kq a0 p1 (w64 (v458 + 1)))) else none) else (some (-1))
def slices_IndexFunc_impl_Job_impl_Job_3.f (k : Nat) (a0 : List S74) (p1 : S74 → Option Bool) : Option Int := slices_IndexFunc_impl_Job_impl_Job_3.l0 k a0 p1 0
theorem slices_IndexFunc_impl_Job_impl_Job_3.go : Callable Tryz.prog 59 := ⟨_, Tryz.func59, by kernel_rfl, rfl⟩
theorem slices_IndexFunc_impl_Job_impl_Job_3.ok (k : Nat) (a0 : List S74) (p1 : S74 → Option Bool) (gi1 : FuncId) (u1_0_0 u1_0_1 u1_0_2 : V) (hp1 : ∀ x0 r, p1 x0 = some r → VCalls Tryz.prog gi1 [.agg (e74 x0), .ptr [u1_0_0, u1_0_1, u1_0_2]] [.c (.p (.sc (.bool r)))]) (go1 : Callable Tryz.prog gi1) (r : Int) (h : slices_IndexFunc_impl_Job_impl_Job_3.f k a0 p1 = some r) : VCalls Tryz.prog 59 [.c (R 3 e74 z74 a0), .fn gi1 [[u1_0_0, u1_0_1, u1_0_2]]] [.c (.p (.sc (.int .i64 r)))] := by
  unfold slices_IndexFunc_impl_Job_impl_Job_3.f at h
  refine VCalls.of (fn := Tryz.f59) (N := 19) Tryz.func59 rfl rfl (fun w0 => ?_)
  have H0 : ∀ (kq : Nat) (v458 : Int), slices_IndexFunc_impl_Job_impl_Job_3.l0 kq a0 p1 v458 = some r → AG Tryz.prog 59 19 [.c (.p (.sc (.int .i64 r)))] w0 (headStk (codeOf Tryz.f59) 0) (mkFS (slices_IndexFunc_impl_Job_impl_Job_3.h0T a0 gi1 u1_0_0 u1_0_1 u1_0_2 v458) (slices_IndexFunc_impl_Job_impl_Job_3.h0H a0 gi1 u1_0_0 u1_0_1 u1_0_2 v458)) := by
    intro kq
    induction kq with
    | zero => intro v458 h; cases h
    | succ kq ih =>
      intro v458 h
      rw [slices_IndexFunc_impl_Job_impl_Job_3.l0] at h
      by_cases c1442 : v458 < (a0.length : Int)
      · replace h := (if_pos c1442).symm.trans h
        obtain ⟨c1443, h⟩ := ifN h
        obtain ⟨t459, g1444, h⟩ := bindN h
        let C1444 := mkCon (hp1 (rdD z74 a0 v458) t459 g1444) go1
        by_cases c1445 : t459 = true
        · replace h := (if_pos c1445).symm.trans h
          cases h
          exact byRet MX Tryz.func59 1000 [.b true, .call C1444, .b true, .fin] (o1 (decide_eq_true c1442) (o1 c1443 (o1 c1442 (oa (sc_ C1444) (o1 c1445 on))))) (by kernel_rfl)
        · replace h := (if_neg c1445).symm.trans h
          exact byHead MX Tryz.func59 1000 [.b true, .call C1444, .b false, .fin] (o1 (decide_eq_true c1442) (o1 c1443 (o1 c1442 (oa (sc_ C1444) (o1 (eqf c1445) on))))) (ih (w64 (v458 + 1)) h) (by kernel_rfl)
      · replace h := (if_neg c1442).symm.trans h
        cases h
        exact byRet MX Tryz.func59 1000 [.b false, .fin, .fin] (o1 (decide_eq_false c1442) on) (by kernel_rfl)
  exact byHead MX Tryz.func59 1000 [.fin] on (H0 k 0 h) (by kernel_rfl)
end Go.Proofs.YtoaknaceaghclaaGreat.V
