/- What each Go function computes, and that the machine does so: printed by a program of this session (avgen.py). -/
import Derived.Test.YtnnppdjmhellcaaGreatV6
namespace Go.Proofs.YtnnppdjmhellcaaGreat.V
open Go Go.Av Go.Proofs
set_option linter.unusedVariables false
set_option maxRecDepth 100000
/-! ### impl_Around: function 124 -/
def impl_Around.f (k : Nat) (a0 : S38) (a1 : Int) : Option (List Int) := (impl_GridOk.f k a0).bind fun t315 => if t315 = true then ((impl_around.f a0 a1).bind fun t344 => some t344) else (some ([] : List Int))
theorem impl_Around.go : Callable Tryz.prog 124 := ⟨_, Tryz.func124, by kernel_rfl, rfl⟩
theorem impl_Around.ok (k : Nat) (a0 : S38) (a1 : Int) (r : (List Int)) (h : impl_Around.f k a0 a1 = some r) : VCalls Tryz.prog 124 [.agg (e38 a0), .c (.sc (.int .i64 a1))] [.c (.own 3 1 r.length (fun j => (eI .i64) (r.getD j 0)))] := by
  unfold impl_Around.f at h
  refine VCalls.of (fn := Tryz.f124) (N := 11) Tryz.func124 rfl rfl (fun w0 => ?_)
  obtain ⟨t315, g1001, h⟩ := bindN h
  let C1001 := mkCon (impl_GridOk.ok k a0 t315 g1001) impl_GridOk.go
  by_cases c1002 : t315 = true
  · replace h := (if_pos c1002).symm.trans h
    obtain ⟨t344, g1096, h⟩ := bindN h
    let C1096 := mkCon (impl_around.ok a0 a1 t344 g1096) impl_around.go
    cases h
    exact byRet MX Tryz.func124 1000 [.call C1001, .b false, .call C1096, .fin] (oa (sc_ C1001) (o1 (bnf c1002) (oa (sc_ C1096) on))) (by kernel_rfl)
  · replace h := (if_neg c1002).symm.trans h
    cases h
    exact byRet MX Tryz.func124 1000 [.call C1001, .b true, .fin, .nil 4 384256 3 1, orow 384256 (eI .i64) 0 ([] : List Int)] (oa (sc_ C1001) (o1 (bnt (eqf c1002)) (o1 (GE.nil (eI .i64) 0) on))) (by kernel_rfl)

/-! ### slices_Index_int_int: function 110 -/
def slices_Index_int_int.h0T (a0 : List Int) (a1 : Int) (v346 : Int) : List (Nat × AV) := [(0, .t (.c (.p false (R 1 (eI .i64) 0 a0)))), (1, .t (.c (.p false (.sc (.int .i64 a1))))), (7, .t (.c (.p true (.sc (.int .i64 (a0.length : Int)))))), (8, .t (.c (.p true (.sc (.int .i64 v346)))))]
def slices_Index_int_int.h0H (a0 : List Int) (a1 : Int) (v346 : Int) : List (Nat × Content) := []
def slices_Index_int_int.l0 : Nat → List Int → Int → Int → Option Int
  | 0, _, _, _ => none
  | kq + 1, a0, a1, v346 => if v346 < (a0.length : Int) then (if 0 ≤ v346 then (if a1 = (rdD 0 a0 v346) then (some v346) else (slices_Index_int_int.l0 kq a0 a1 (w64 (v346 + 1)))) else none) else (some (-1))
def slices_Index_int_int.f (k : Nat) (a0 : List Int) (a1 : Int) : Option Int := slices_Index_int_int.l0 k a0 a1 0
theorem slices_Index_int_int.go : Callable Tryz.prog 110 := ⟨_, Tryz.func110, by kernel_rfl, rfl⟩
theorem slices_Index_int_int.ok (k : Nat) (a0 : List Int) (a1 : Int) (r : Int) (h : slices_Index_int_int.f k a0 a1 = some r) : VCalls Tryz.prog 110 [.c (R 1 (eI .i64) 0 a0), .c (.sc (.int .i64 a1))] [.c (.p (.sc (.int .i64 r)))] := by
  unfold slices_Index_int_int.f at h
  refine VCalls.of (fn := Tryz.f110) (N := 19) Tryz.func110 rfl rfl (fun w0 => ?_)
  have H0 : ∀ (kq : Nat) (v346 : Int), slices_Index_int_int.l0 kq a0 a1 v346 = some r → AG Tryz.prog 110 19 [.c (.p (.sc (.int .i64 r)))] w0 (headStk (codeOf Tryz.f110) 0) (mkFS (slices_Index_int_int.h0T a0 a1 v346) (slices_Index_int_int.h0H a0 a1 v346)) := by
    intro kq
    induction kq with
    | zero => intro v346 h; cases h
    | succ kq ih =>
      intro v346 h
      rw [slices_Index_int_int.l0] at h
      by_cases c1100 : v346 < (a0.length : Int)
      · replace h := (if_pos c1100).symm.trans h
        obtain ⟨c1101, h⟩ := ifN h
        by_cases c1102 : a1 = (rdD 0 a0 v346)
        · replace h := (if_pos c1102).symm.trans h
          cases h
          exact byRet MX Tryz.func110 1000 [.b true, .b true, .fin] (o1 (decide_eq_true c1100) (o1 c1101 (o1 c1100 (o1 (decide_eq_true c1102) on)))) (by kernel_rfl)
        · replace h := (if_neg c1102).symm.trans h
          exact byHead MX Tryz.func110 1000 [.b true, .b false, .fin] (o1 (decide_eq_true c1100) (o1 c1101 (o1 c1100 (o1 (decide_eq_false c1102) on)))) (ih (w64 (v346 + 1)) h) (by kernel_rfl)
      · replace h := (if_neg c1100).symm.trans h
        cases h
        exact byRet MX Tryz.func110 1000 [.b false, .fin, .fin] (o1 (decide_eq_false c1100) on) (by kernel_rfl)
  exact byHead MX Tryz.func110 1000 [.fin] on (H0 k 0 h) (by kernel_rfl)

/-! ### slices_Contains_int_int: function 52 -/
def slices_Contains_int_int.f (k : Nat) (a0 : List Int) (a1 : Int) : Option Bool := (slices_Index_int_int.f k a0 a1).bind fun t347 => some (decide (0 ≤ t347))
theorem slices_Contains_int_int.go : Callable Tryz.prog 52 := ⟨_, Tryz.func52, by kernel_rfl, rfl⟩
theorem slices_Contains_int_int.ok (k : Nat) (a0 : List Int) (a1 : Int) (r : Bool) (h : slices_Contains_int_int.f k a0 a1 = some r) : VCalls Tryz.prog 52 [.c (R 1 (eI .i64) 0 a0), .c (.sc (.int .i64 a1))] [.c (.p (.sc (.bool r)))] := by
  unfold slices_Contains_int_int.f at h
  refine VCalls.of (fn := Tryz.f52) (N := 9) Tryz.func52 rfl rfl (fun w0 => ?_)
  obtain ⟨t347, g1103, h⟩ := bindN h
  let C1103 := mkCon (slices_Index_int_int.ok k a0 a1 t347 g1103) slices_Index_int_int.go
  cases h
  exact byRet MX Tryz.func52 1000 [.call C1103, .fin] (oa (sc_ C1103) on) (by kernel_rfl)

/-! ### impl_Beside: function 85 -/
def impl_Beside.f (k : Nat) (a0 : S38) (a1 : Int) (a2 : Int) : Option Bool := (impl_Around.f k a0 a1).bind fun t345 => (slices_Contains_int_int.f k t345 a2).bind fun t348 => some t348
theorem impl_Beside.go : Callable Tryz.prog 85 := ⟨_, Tryz.func85, by kernel_rfl, rfl⟩
theorem impl_Beside.ok (k : Nat) (a0 : S38) (a1 : Int) (a2 : Int) (r : Bool) (h : impl_Beside.f k a0 a1 a2 = some r) : VCalls Tryz.prog 85 [.agg (e38 a0), .c (.sc (.int .i64 a1)), .c (.sc (.int .i64 a2))] [.c (.p (.sc (.bool r)))] := by
  unfold impl_Beside.f at h
  refine VCalls.of (fn := Tryz.f85) (N := 12) Tryz.func85 rfl rfl (fun w0 => ?_)
  obtain ⟨t345, g1097, h⟩ := bindN h
  let C1097 := mkCon (impl_Around.ok k a0 a1 t345 g1097) impl_Around.go
  obtain ⟨t348, g1104, h⟩ := bindN h
  let C1104 := mkCon (slices_Contains_int_int.ok k t345 a2 t348 g1104) slices_Contains_int_int.go
  cases h
  exact byRet MX Tryz.func85 1000 [.call C1097, .call C1104, .fin] (oa (sc_ C1097) (oa (sc_ C1104) on)) (by kernel_rfl)

/-! ### impl_heldBy: function 50 -/
def impl_heldBy.f (a0 : S71) : Option (List Int) := if a0.f2 < 0 then (some ([a0.f1])) else (some ([a0.f1, a0.f2]))
theorem impl_heldBy.go : Callable Tryz.prog 50 := ⟨_, Tryz.func50, by kernel_rfl, rfl⟩
theorem impl_heldBy.ok (a0 : S71) (r : (List Int)) (h : impl_heldBy.f a0 = some r) : VCalls Tryz.prog 50 [.agg (e71 a0)] [.c (.own 3 1 r.length (fun j => (eI .i64) (r.getD j 0)))] := by
  unfold impl_heldBy.f at h
  refine VCalls.of (fn := Tryz.f50) (N := 14) Tryz.func50 rfl rfl (fun w0 => ?_)
  by_cases c1113 : a0.f2 < 0
  · replace h := (if_pos c1113).symm.trans h
    cases h
    exact byRet MX Tryz.func50 1000 [.b true, rowe 8 (eI .i64) 0 ([a0.f1]), .fin] (o1 (decide_eq_true c1113) (o1 (GE.lit 1 (eI .i64) 0 [a0.f1] (by intro x; rfl)) on)) (by kernel_rfl)
  · replace h := (if_neg c1113).symm.trans h
    cases h
    exact byRet MX Tryz.func50 1000 [.b false, rowe 13 (eI .i64) 0 ([a0.f1, a0.f2]), .fin] (o1 (decide_eq_false c1113) (o1 (GE.lit 1 (eI .i64) 0 [a0.f1, a0.f2] (by intro x; rfl)) on)) (by kernel_rfl)

/-! ### impl_areApart: function 86 -/
def impl_areApart.h1T (a0 : List S71) (v399 : Int) (t400 : List Int) (v412 : Int) (v410 : Nat) (v411 : List Int) : List (Nat × AV) := [(3, .t (.c (.h 512))), (5, .ptr 320 0), (9, .t (.c (.p false (R 4 e71 z71 a0)))), (10, .t (.c (.p true (.sc (.int .i64 (a0.length : Int)))))), (11, .t (.c (.p true (.sc (.int .i64 v399))))), (16, .t (.c (.h 1024))), (17, .t (.c (.p true (.sc (.int .i64 (t400.length : Int)))))), (18, .t (.c (.p true (.sc (.int .i64 v412)))))]
noncomputable def impl_areApart.h1H (a0 : List S71) (v399 : Int) (t400 : List Int) (v412 : Int) (v410 : Nat) (v411 : List Int) : List (Nat × Content) := [(320, .box 71 [.p false (.sc (.int .i64 ((rdD z71 a0 v399).f0))), .p false (.sc (.int .i64 ((rdD z71 a0 v399).f1))), .p false (.sc (.int .i64 ((rdD z71 a0 v399).f2))), .p false (.sc (.bool ((rdD z71 a0 v399).f3)))]), (512, .set Tryz.prog 3 4 v410 v411), (1024, .row 3 1 t400.length (fun j => (eI .i64) (t400.getD j 0)) true)]
def impl_areApart.x1T (a0 : List S71) (v399 : Int) (y413 : Nat × (List Int)) : List (Nat × AV) := [(3, .t (.c (.h 512))), (9, .t (.c (.p false (R 4 e71 z71 a0)))), (10, .t (.c (.p true (.sc (.int .i64 (a0.length : Int)))))), (11, .t (.c (.p true (.sc (.int .i64 v399)))))]
noncomputable def impl_areApart.x1H (a0 : List S71) (v399 : Int) (y413 : Nat × (List Int)) : List (Nat × Content) := [(512, .set Tryz.prog 3 4 y413.1 y413.2)]
def impl_areApart.l1 : Nat → List Int → List S71 → Int → Nat → List Int → Int → Option (Bool ⊕ (Nat × (List Int)))
  | 0, _, _, _, _, _, _ => none
  | kq + 1, t400, a0, v399, v410, v411, v412 => if v412 < (t400.length : Int) then (if 0 ≤ v412 then (if v412 = 1 then (if (rdD 0 t400 v412) = (rdD z71 a0 v399).f1 then (impl_areApart.l1 kq t400 a0 v399 v410 v411 (w64 (v412 + 1))) else (if (Lit.int .i64 (rdD 0 t400 v412)).wf = true then (if (List.contains v411 (rdD 0 t400 v412)) = true then (some (.inl false)) else (if v410 < maxLen then (impl_areApart.l1 kq t400 a0 v399 (v410 + 1) ((rdD 0 t400 v412) :: v411) (w64 (v412 + 1))) else none)) else none)) else (if (Lit.int .i64 (rdD 0 t400 v412)).wf = true then (if (List.contains v411 (rdD 0 t400 v412)) = true then (some (.inl false)) else (if v410 < maxLen then (impl_areApart.l1 kq t400 a0 v399 (v410 + 1) ((rdD 0 t400 v412) :: v411) (w64 (v412 + 1))) else none)) else none)) else none) else (some (.inr (v410, v411)))
def impl_areApart.h0T (a0 : List S71) (v399 : Int) (v397 : Nat) (v398 : List Int) : List (Nat × AV) := [(3, .t (.c (.h 512))), (9, .t (.c (.p false (R 4 e71 z71 a0)))), (10, .t (.c (.p true (.sc (.int .i64 (a0.length : Int)))))), (11, .t (.c (.p true (.sc (.int .i64 v399)))))]
noncomputable def impl_areApart.h0H (a0 : List S71) (v399 : Int) (v397 : Nat) (v398 : List Int) : List (Nat × Content) := [(512, .set Tryz.prog 3 4 v397 v398)]
def impl_areApart.l0 : Nat → List S71 → Nat → List Int → Int → Option Bool
  | 0, _, _, _, _ => none
  | kq + 1, a0, v397, v398, v399 => if v399 < (a0.length : Int) then (if 0 ≤ v399 then ((impl_heldBy.f (rdD z71 a0 v399)).bind fun t400 => (impl_areApart.l1 kq t400 a0 v399 v397 v398 0).bind fun x1312 => match x1312 with | .inl r => some r | .inr y413 => (impl_areApart.l0 kq a0 y413.1 y413.2 (w64 (v399 + 1)))) else none) else (some true)
def impl_areApart.f (k : Nat) (a0 : List S71) : Option Bool := impl_areApart.l0 k a0 0 ([] : List Int) 0
theorem impl_areApart.go : Callable Tryz.prog 86 := ⟨_, Tryz.func86, by kernel_rfl, rfl⟩
theorem impl_areApart.ok (k : Nat) (a0 : List S71) (r : Bool) (h : impl_areApart.f k a0 = some r) : VCalls Tryz.prog 86 [.c (R 4 e71 z71 a0)] [.c (.p (.sc (.bool r)))] := by
  unfold impl_areApart.f at h
  refine VCalls.of (fn := Tryz.f86) (N := 38) Tryz.func86 rfl rfl (fun w0 => ?_)
  have H0 : ∀ (kq : Nat) (v397 : Nat) (v398 : List Int) (v399 : Int), impl_areApart.l0 kq a0 v397 v398 v399 = some r → AG Tryz.prog 86 38 [.c (.p (.sc (.bool r)))] w0 (headStk (codeOf Tryz.f86) 0) (mkFS (impl_areApart.h0T a0 v399 v397 v398) (impl_areApart.h0H a0 v399 v397 v398)) := by
    intro kq
    induction kq with
    | zero => intro v397 v398 v399 h; cases h
    | succ kq ih =>
      intro v397 v398 v399 h
      rw [impl_areApart.l0] at h
      by_cases c1262 : v399 < (a0.length : Int)
      · replace h := (if_pos c1262).symm.trans h
        obtain ⟨c1263, h⟩ := ifN h
        obtain ⟨t400, g1264, h⟩ := bindN h
        let C1264 := mkCon (impl_heldBy.ok (rdD z71 a0 v399) t400 g1264) impl_heldBy.go
        have H1 : ∀ (kq : Nat) (v410 : Nat) (v411 : List Int) (v412 : Int) (x : (Bool ⊕ (Nat × (List Int)))), impl_areApart.l1 kq t400 a0 v399 v410 v411 v412 = some x → (match x with | .inl r' => r' = r | .inr y413 => AG Tryz.prog 86 38 [.c (.p (.sc (.bool r)))] w0 (exitStk (codeOf Tryz.f86) 1) (mkFS (impl_areApart.x1T a0 v399 y413) (impl_areApart.x1H a0 v399 y413))) → AG Tryz.prog 86 38 [.c (.p (.sc (.bool r)))] w0 (headStk (codeOf Tryz.f86) 1) (mkFS (impl_areApart.h1T a0 v399 t400 v412 v410 v411) (impl_areApart.h1H a0 v399 t400 v412 v410 v411)) := by
          intro kq
          induction kq with
          | zero => intro v410 v411 v412 x h hx; cases h
          | succ kq ih =>
            intro v410 v411 v412 x h hx
            rw [impl_areApart.l1] at h
            by_cases c1302 : v412 < (t400.length : Int)
            · replace h := (if_pos c1302).symm.trans h
              obtain ⟨c1303, h⟩ := ifN h
              by_cases c1304 : v412 = 1
              · replace h := (if_pos c1304).symm.trans h
                by_cases c1305 : (rdD 0 t400 v412) = (rdD z71 a0 v399).f1
                · replace h := (if_pos c1305).symm.trans h
                  exact byHead MX Tryz.func86 1000 [.b true, .dec 25 true, .b true, .fin, .fin] (o1 (decide_eq_true c1302) (o1 c1303 (o1 c1302 (o1 (decide_eq_true c1304) (o1 (decide_eq_true c1305) on))))) (ih v410 v411 (w64 (v412 + 1)) _ h hx) (by kernel_rfl)
                · replace h := (if_neg c1305).symm.trans h
                  obtain ⟨c1306, h⟩ := ifN h
                  by_cases c1307 : (List.contains v411 (rdD 0 t400 v412)) = true
                  · replace h := (if_pos c1307).symm.trans h
                    cases h
                    subst hx
                    exact byRet MX Tryz.func86 1000 [.b true, .dec 25 true, .b false, .b true, .fin] (o1 (decide_eq_true c1302) (o1 c1303 (o1 c1302 (o1 (decide_eq_true c1304) (o1 (decide_eq_false c1305) (o1 (rfl : Tryz.prog = Tryz.prog) (o1 c1306 (o1 c1307 on)))))))) (by kernel_rfl)
                  · replace h := (if_neg c1307).symm.trans h
                    obtain ⟨c1308, h⟩ := ifN h
                    exact byHead MX Tryz.func86 1000 [.b true, .dec 25 true, .b false, .b false, .fin] (o1 (decide_eq_true c1302) (o1 c1303 (o1 c1302 (o1 (decide_eq_true c1304) (o1 (decide_eq_false c1305) (o1 (rfl : Tryz.prog = Tryz.prog) (o1 c1306 (o1 (eqf c1307) (o1 (rfl : Tryz.prog = Tryz.prog) (o1 c1308 (o1 c1306 on))))))))))) (ih (v410 + 1) ((rdD 0 t400 v412) :: v411) (w64 (v412 + 1)) _ h hx) (by kernel_rfl)
              · replace h := (if_neg c1304).symm.trans h
                obtain ⟨c1309, h⟩ := ifN h
                by_cases c1310 : (List.contains v411 (rdD 0 t400 v412)) = true
                · replace h := (if_pos c1310).symm.trans h
                  cases h
                  subst hx
                  exact byRet MX Tryz.func86 1000 [.b true, .dec 25 false, .b false, .b true, .fin] (o1 (decide_eq_true c1302) (o1 c1303 (o1 c1302 (o1 (decide_eq_false c1304) (o1 (rfl : false = false) (o1 (rfl : Tryz.prog = Tryz.prog) (o1 c1309 (o1 c1310 on)))))))) (by kernel_rfl)
                · replace h := (if_neg c1310).symm.trans h
                  obtain ⟨c1311, h⟩ := ifN h
                  exact byHead MX Tryz.func86 1000 [.b true, .dec 25 false, .b false, .b false, .fin] (o1 (decide_eq_true c1302) (o1 c1303 (o1 c1302 (o1 (decide_eq_false c1304) (o1 (rfl : false = false) (o1 (rfl : Tryz.prog = Tryz.prog) (o1 c1309 (o1 (eqf c1310) (o1 (rfl : Tryz.prog = Tryz.prog) (o1 c1311 (o1 c1309 on))))))))))) (ih (v410 + 1) ((rdD 0 t400 v412) :: v411) (w64 (v412 + 1)) _ h hx) (by kernel_rfl)
            · replace h := (if_neg c1302).symm.trans h
              cases h
              exact byStop MX Tryz.func86 1000 [.b false, .fin] (o1 (decide_eq_false c1302) on) hx (by kernel_rfl)
        obtain ⟨x1312, g1312, h⟩ := bindN h
        cases x1312 with
        | inl r' =>
          exact byHead MX Tryz.func86 1000 [.b true, .call C1264, .fin] (o1 (decide_eq_true c1262) (o1 c1263 (o1 c1262 (oa (sc_ C1264) on)))) (H1 kq v397 v398 0 _ g1312 (Option.some.inj h)) (by kernel_rfl)
        | inr y413 =>
          refine byHead MX Tryz.func86 1000 [.b true, .call C1264, .fin] (o1 (decide_eq_true c1262) (o1 c1263 (o1 c1262 (oa (sc_ C1264) on)))) (H1 kq v397 v398 0 _ g1312 ?_) (by kernel_rfl)
          show AG Tryz.prog 86 38 [.c (.p (.sc (.bool r)))] w0 (exitStk (codeOf Tryz.f86) 1) (mkFS (impl_areApart.x1T a0 v399 y413) (impl_areApart.x1H a0 v399 y413))
          exact byHead MX Tryz.func86 1000 [.fin] on (ih y413.1 y413.2 (w64 (v399 + 1)) h) (by kernel_rfl)
      · replace h := (if_neg c1262).symm.trans h
        cases h
        exact byRet MX Tryz.func86 1000 [.b false, .fin, .fin] (o1 (decide_eq_false c1262) on) (by kernel_rfl)
  exact byHead MX Tryz.func86 1000 [.fin] on (H0 k 0 ([] : List Int) 0 h) (by kernel_rfl)

/-! ### impl_RobotsOk: function 38 -/
def impl_RobotsOk.h0T (a1 : List S71) (v313 : Int) (a0 : S38) : List (Nat × AV) := [(1, .t (.c (.p false (R 4 e71 z71 a1)))), (2, .ptr 128 0), (15, .t (.c (.p false (R 4 e71 z71 a1)))), (16, .t (.c (.p true (.sc (.int .i64 (a1.length : Int)))))), (17, .t (.c (.p true (.sc (.int .i64 v313)))))]
def impl_RobotsOk.h0H (a1 : List S71) (v313 : Int) (a0 : S38) : List (Nat × Content) := [(128, .box 38 [.p false (.sc (.int .i64 a0.f0)), .p false (.sc (.int .i64 a0.f1)), .p false (.sc (.string a0.f2))])]
def impl_RobotsOk.l0 : Nat → List S71 → S38 → Int → Option Bool
  | 0, _, _, _ => none
  | kq + 1, a1, a0, v313 => if v313 < (a1.length : Int) then (if 0 ≤ v313 then (if (rdD z71 a1 v313).f0 < 0 then (some false) else (if 99 < (rdD z71 a1 v313).f0 then (some false) else (if 0 < v313 then (if 0 ≤ (w64 (v313 - 1)) then (if (w64 (v313 - 1)) < (a1.length : Int) then (if (rdD z71 a1 v313).f0 ≤ (rdD z71 a1 (w64 (v313 - 1))).f0 then (some false) else ((impl_isFree.f a0 ((rdD z71 a1 v313).f1)).bind fun t314 => if t314 = true then (if (rdD z71 a1 v313).f2 = (-1) then (impl_RobotsOk.l0 kq a1 a0 (w64 (v313 + 1))) else ((impl_Beside.f kq a0 ((rdD z71 a1 v313).f1) ((rdD z71 a1 v313).f2)).bind fun t349 => if t349 = true then (impl_RobotsOk.l0 kq a1 a0 (w64 (v313 + 1))) else (some false))) else (some false))) else none) else none) else ((impl_isFree.f a0 ((rdD z71 a1 v313).f1)).bind fun t350 => if t350 = true then (if (rdD z71 a1 v313).f2 = (-1) then (impl_RobotsOk.l0 kq a1 a0 (w64 (v313 + 1))) else ((impl_Beside.f kq a0 ((rdD z71 a1 v313).f1) ((rdD z71 a1 v313).f2)).bind fun t351 => if t351 = true then (impl_RobotsOk.l0 kq a1 a0 (w64 (v313 + 1))) else (some false))) else (some false))))) else none) else ((impl_areApart.f kq a1).bind fun t414 => some t414)
def impl_RobotsOk.f (k : Nat) (a0 : S38) (a1 : List S71) : Option Bool := (impl_GridOk.f k a0).bind fun t311 => if t311 = true then (if 10 < (a1.length : Int) then (some false) else (impl_RobotsOk.l0 k a1 a0 0)) else (some false)
theorem impl_RobotsOk.go : Callable Tryz.prog 38 := ⟨_, Tryz.func38, by kernel_rfl, rfl⟩
theorem impl_RobotsOk.ok (k : Nat) (a0 : S38) (a1 : List S71) (r : Bool) (h : impl_RobotsOk.f k a0 a1 = some r) : VCalls Tryz.prog 38 [.agg (e38 a0), .c (R 4 e71 z71 a1)] [.c (.p (.sc (.bool r)))] := by
  unfold impl_RobotsOk.f at h
  refine VCalls.of (fn := Tryz.f38) (N := 69) Tryz.func38 rfl rfl (fun w0 => ?_)
  obtain ⟨t311, g975, h⟩ := bindN h
  let C975 := mkCon (impl_GridOk.ok k a0 t311 g975) impl_GridOk.go
  by_cases c976 : t311 = true
  · replace h := (if_pos c976).symm.trans h
    by_cases c977 : 10 < (a1.length : Int)
    · replace h := (if_pos c977).symm.trans h
      cases h
      exact byRet MX Tryz.func38 1000 [.call C975, .dec 10 false, .b true, .fin] (oa (sc_ C975) (o1 (bnf c976) (o1 (decide_eq_true c977) on))) (by kernel_rfl)
    · replace h := (if_neg c977).symm.trans h
      have H0 : ∀ (kq : Nat) (v313 : Int), impl_RobotsOk.l0 kq a1 a0 v313 = some r → AG Tryz.prog 38 69 [.c (.p (.sc (.bool r)))] w0 (headStk (codeOf Tryz.f38) 0) (mkFS (impl_RobotsOk.h0T a1 v313 a0) (impl_RobotsOk.h0H a1 v313 a0)) := by
        intro kq
        induction kq with
        | zero => intro v313 h; cases h
        | succ kq ih =>
          intro v313 h
          rw [impl_RobotsOk.l0] at h
          by_cases c990 : v313 < (a1.length : Int)
          · replace h := (if_pos c990).symm.trans h
            obtain ⟨c991, h⟩ := ifN h
            by_cases c992 : (rdD z71 a1 v313).f0 < 0
            · replace h := (if_pos c992).symm.trans h
              cases h
              exact byRet MX Tryz.func38 1000 [.b true, .dec 25 true, .b true, .fin] (o1 (decide_eq_true c990) (o1 c991 (o1 c990 (o1 (decide_eq_true c992) (o1 (rfl : true = true) on))))) (by kernel_rfl)
            · replace h := (if_neg c992).symm.trans h
              by_cases c993 : 99 < (rdD z71 a1 v313).f0
              · replace h := (if_pos c993).symm.trans h
                cases h
                exact byRet MX Tryz.func38 1000 [.b true, .dec 25 false, .dec 30 true, .b true, .fin] (o1 (decide_eq_true c990) (o1 c991 (o1 c990 (o1 (decide_eq_false c992) (o1 (decide_eq_true c993) (o1 (rfl : true = true) on)))))) (by kernel_rfl)
              · replace h := (if_neg c993).symm.trans h
                by_cases c994 : 0 < v313
                · replace h := (if_pos c994).symm.trans h
                  obtain ⟨c995, h⟩ := ifN h
                  obtain ⟨c996, h⟩ := ifN h
                  by_cases c997 : (rdD z71 a1 v313).f0 ≤ (rdD z71 a1 (w64 (v313 - 1))).f0
                  · replace h := (if_pos c997).symm.trans h
                    cases h
                    exact byRet MX Tryz.func38 1000 [.b true, .dec 25 false, .dec 30 false, .dec 33 true, .dec 45 true, .b true, .fin] (o1 (decide_eq_true c990) (o1 c991 (o1 c990 (o1 (decide_eq_false c992) (o1 (decide_eq_false c993) (o1 (decide_eq_true c994) (o1 c995 (o1 c996 (o1 (decide_eq_true c997) (o1 (rfl : true = true) on)))))))))) (by kernel_rfl)
                  · replace h := (if_neg c997).symm.trans h
                    obtain ⟨t314, g998, h⟩ := bindN h
                    let C998 := mkCon (impl_isFree.ok a0 ((rdD z71 a1 v313).f1) t314 g998) impl_isFree.go
                    by_cases c999 : t314 = true
                    · replace h := (if_pos c999).symm.trans h
                      by_cases c1000 : (rdD z71 a1 v313).f2 = (-1)
                      · replace h := (if_pos c1000).symm.trans h
                        exact byHead MX Tryz.func38 1000 [.b true, .dec 25 false, .dec 30 false, .dec 33 true, .dec 45 false, .call C998, .dec 52 false, .dec 56 false, .b false, .fin] (o1 (decide_eq_true c990) (o1 c991 (o1 c990 (o1 (decide_eq_false c992) (o1 (decide_eq_false c993) (o1 (decide_eq_true c994) (o1 c995 (o1 c996 (o1 (decide_eq_false c997) (oa (sc_ C998) (o1 (bnf c999) (o1 (bnf (decide_eq_true c1000)) (o1 (rfl : false = false) on))))))))))))) (ih (w64 (v313 + 1)) h) (by kernel_rfl)
                      · replace h := (if_neg c1000).symm.trans h
                        obtain ⟨t349, g1105, h⟩ := bindN h
                        let C1105 := mkCon (impl_Beside.ok kq a0 ((rdD z71 a1 v313).f1) ((rdD z71 a1 v313).f2) t349 g1105) impl_Beside.go
                        by_cases c1106 : t349 = true
                        · replace h := (if_pos c1106).symm.trans h
                          exact byHead MX Tryz.func38 1000 [.b true, .dec 25 false, .dec 30 false, .dec 33 true, .dec 45 false, .call C998, .dec 52 false, .dec 56 true, .call C1105, .b false, .fin] (o1 (decide_eq_true c990) (o1 c991 (o1 c990 (o1 (decide_eq_false c992) (o1 (decide_eq_false c993) (o1 (decide_eq_true c994) (o1 c995 (o1 c996 (o1 (decide_eq_false c997) (oa (sc_ C998) (o1 (bnf c999) (o1 (bnt (decide_eq_false c1000)) (oa (sc_ C1105) (o1 (bnf c1106) on)))))))))))))) (ih (w64 (v313 + 1)) h) (by kernel_rfl)
                        · replace h := (if_neg c1106).symm.trans h
                          cases h
                          exact byRet MX Tryz.func38 1000 [.b true, .dec 25 false, .dec 30 false, .dec 33 true, .dec 45 false, .call C998, .dec 52 false, .dec 56 true, .call C1105, .b true, .fin] (o1 (decide_eq_true c990) (o1 c991 (o1 c990 (o1 (decide_eq_false c992) (o1 (decide_eq_false c993) (o1 (decide_eq_true c994) (o1 c995 (o1 c996 (o1 (decide_eq_false c997) (oa (sc_ C998) (o1 (bnf c999) (o1 (bnt (decide_eq_false c1000)) (oa (sc_ C1105) (o1 (bnt (eqf c1106)) on)))))))))))))) (by kernel_rfl)
                    · replace h := (if_neg c999).symm.trans h
                      cases h
                      exact byRet MX Tryz.func38 1000 [.b true, .dec 25 false, .dec 30 false, .dec 33 true, .dec 45 false, .call C998, .dec 52 true, .b true, .fin] (o1 (decide_eq_true c990) (o1 c991 (o1 c990 (o1 (decide_eq_false c992) (o1 (decide_eq_false c993) (o1 (decide_eq_true c994) (o1 c995 (o1 c996 (o1 (decide_eq_false c997) (oa (sc_ C998) (o1 (bnt (eqf c999)) (o1 (rfl : true = true) on)))))))))))) (by kernel_rfl)
                · replace h := (if_neg c994).symm.trans h
                  obtain ⟨t350, g1107, h⟩ := bindN h
                  let C1107 := mkCon (impl_isFree.ok a0 ((rdD z71 a1 v313).f1) t350 g1107) impl_isFree.go
                  by_cases c1108 : t350 = true
                  · replace h := (if_pos c1108).symm.trans h
                    by_cases c1109 : (rdD z71 a1 v313).f2 = (-1)
                    · replace h := (if_pos c1109).symm.trans h
                      exact byHead MX Tryz.func38 1000 [.b true, .dec 25 false, .dec 30 false, .dec 33 false, .call C1107, .dec 52 false, .dec 56 false, .b false, .fin] (o1 (decide_eq_true c990) (o1 c991 (o1 c990 (o1 (decide_eq_false c992) (o1 (decide_eq_false c993) (o1 (decide_eq_false c994) (oa (sc_ C1107) (o1 (bnf c1108) (o1 (bnf (decide_eq_true c1109)) (o1 (rfl : false = false) on)))))))))) (ih (w64 (v313 + 1)) h) (by kernel_rfl)
                    · replace h := (if_neg c1109).symm.trans h
                      obtain ⟨t351, g1110, h⟩ := bindN h
                      let C1110 := mkCon (impl_Beside.ok kq a0 ((rdD z71 a1 v313).f1) ((rdD z71 a1 v313).f2) t351 g1110) impl_Beside.go
                      by_cases c1111 : t351 = true
                      · replace h := (if_pos c1111).symm.trans h
                        exact byHead MX Tryz.func38 1000 [.b true, .dec 25 false, .dec 30 false, .dec 33 false, .call C1107, .dec 52 false, .dec 56 true, .call C1110, .b false, .fin] (o1 (decide_eq_true c990) (o1 c991 (o1 c990 (o1 (decide_eq_false c992) (o1 (decide_eq_false c993) (o1 (decide_eq_false c994) (oa (sc_ C1107) (o1 (bnf c1108) (o1 (bnt (decide_eq_false c1109)) (oa (sc_ C1110) (o1 (bnf c1111) on))))))))))) (ih (w64 (v313 + 1)) h) (by kernel_rfl)
                      · replace h := (if_neg c1111).symm.trans h
                        cases h
                        exact byRet MX Tryz.func38 1000 [.b true, .dec 25 false, .dec 30 false, .dec 33 false, .call C1107, .dec 52 false, .dec 56 true, .call C1110, .b true, .fin] (o1 (decide_eq_true c990) (o1 c991 (o1 c990 (o1 (decide_eq_false c992) (o1 (decide_eq_false c993) (o1 (decide_eq_false c994) (oa (sc_ C1107) (o1 (bnf c1108) (o1 (bnt (decide_eq_false c1109)) (oa (sc_ C1110) (o1 (bnt (eqf c1111)) on))))))))))) (by kernel_rfl)
                  · replace h := (if_neg c1108).symm.trans h
                    cases h
                    exact byRet MX Tryz.func38 1000 [.b true, .dec 25 false, .dec 30 false, .dec 33 false, .call C1107, .dec 52 true, .b true, .fin] (o1 (decide_eq_true c990) (o1 c991 (o1 c990 (o1 (decide_eq_false c992) (o1 (decide_eq_false c993) (o1 (decide_eq_false c994) (oa (sc_ C1107) (o1 (bnt (eqf c1108)) (o1 (rfl : true = true) on))))))))) (by kernel_rfl)
          · replace h := (if_neg c990).symm.trans h
            obtain ⟨t414, g1313, h⟩ := bindN h
            let C1313 := mkCon (impl_areApart.ok kq a1 t414 g1313) impl_areApart.go
            cases h
            exact byRet MX Tryz.func38 1000 [.b false, .fin, .call C1313, .fin] (o1 (decide_eq_false c990) (oa (sc_ C1313) on)) (by kernel_rfl)
      exact byHead MX Tryz.func38 1000 [.call C975, .dec 10 false, .b false, .fin] (oa (sc_ C975) (o1 (bnf c976) (o1 (decide_eq_false c977) on))) (H0 k 0 h) (by kernel_rfl)
  · replace h := (if_neg c976).symm.trans h
    cases h
    exact byRet MX Tryz.func38 1000 [.call C975, .dec 10 true, .b true, .fin] (oa (sc_ C975) (o1 (bnt (eqf c976)) (o1 (rfl : true = true) on))) (by kernel_rfl)

/-! ### impl_WindowOk_1: function 87 -/
def impl_WindowOk_1.f (a0 : Int) (a1 : S42) : Option Bool := if a0 < 0 then (some true) else (some (decide (a1.f1 < a0)))
theorem impl_WindowOk_1.go : Callable Tryz.prog 87 := ⟨_, Tryz.func87, by kernel_rfl, rfl⟩
theorem impl_WindowOk_1.ok (a0 : Int) (a1 : S42) (r : Bool) (h : impl_WindowOk_1.f a0 a1 = some r) : VCalls Tryz.prog 87 [.c (.sc (.int .i64 a0)), .ptr [.sc (.int .i64 a1.f0), .sc (.int .i64 a1.f1), R 1 (eI .i64) 0 a1.f2]] [.c (.p (.sc (.bool r)))] := by
  unfold impl_WindowOk_1.f at h
  refine VCalls.of (fn := Tryz.f87) (N := 12) Tryz.func87 rfl rfl (fun w0 => ?_)
  by_cases c1321 : a0 < 0
  · replace h := (if_pos c1321).symm.trans h
    cases h
    exact byRet MX Tryz.func87 1000 [.dec 6 true, .fin] (o1 (decide_eq_true c1321) on) (by kernel_rfl)
  · replace h := (if_neg c1321).symm.trans h
    cases h
    exact byRet MX Tryz.func87 1000 [.dec 6 false, .fin] (o1 (decide_eq_false c1321) on) (by kernel_rfl)

/-! ### slices_IndexFunc_int_int_3: function 109 -/
def slices_IndexFunc_int_int_3.h0T (a0 : List Int) (gi1 : FuncId) (u1_0_0 : V) (u1_0_1 : V) (u1_0_2 : V) (v417 : Int) : List (Nat × AV) := [(0, .t (.c (.p false (R 1 (eI .i64) 0 a0)))), (1, .bfn gi1 [[u1_0_0, u1_0_1, u1_0_2]]), (7, .t (.c (.p true (.sc (.int .i64 (a0.length : Int)))))), (8, .t (.c (.p true (.sc (.int .i64 v417)))))]
def slices_IndexFunc_int_int_3.h0H (a0 : List Int) (gi1 : FuncId) (u1_0_0 : V) (u1_0_1 : V) (u1_0_2 : V) (v417 : Int) : List (Nat × Content) := []
def slices_IndexFunc_int_int_3.l0 : Nat → List Int → (Int → Option Bool) → Int → Option Int
  | 0, _, _, _ => none
  | kq + 1, a0, p1, v417 => if v417 < (a0.length : Int) then (if 0 ≤ v417 then ((p1 (rdD 0 a0 v417)).bind fun t418 => if t418 = true then (some v417) else (slices_IndexFunc_int_int_3.l0 kq a0 p1 (w64 (v417 + 1)))) else none) else (some (-1))
def slices_IndexFunc_int_int_3.f (k : Nat) (a0 : List Int) (p1 : Int → Option Bool) : Option Int := slices_IndexFunc_int_int_3.l0 k a0 p1 0
theorem slices_IndexFunc_int_int_3.go : Callable Tryz.prog 109 := ⟨_, Tryz.func109, by kernel_rfl, rfl⟩
theorem slices_IndexFunc_int_int_3.ok (k : Nat) (a0 : List Int) (p1 : Int → Option Bool) (gi1 : FuncId) (u1_0_0 u1_0_1 u1_0_2 : V) (hp1 : ∀ x0 r, p1 x0 = some r → VCalls Tryz.prog gi1 [.c (.sc (.int .i64 x0)), .ptr [u1_0_0, u1_0_1, u1_0_2]] [.c (.p (.sc (.bool r)))]) (go1 : Callable Tryz.prog gi1) (r : Int) (h : slices_IndexFunc_int_int_3.f k a0 p1 = some r) : VCalls Tryz.prog 109 [.c (R 1 (eI .i64) 0 a0), .fn gi1 [[u1_0_0, u1_0_1, u1_0_2]]] [.c (.p (.sc (.int .i64 r)))] := by
  unfold slices_IndexFunc_int_int_3.f at h
  refine VCalls.of (fn := Tryz.f109) (N := 19) Tryz.func109 rfl rfl (fun w0 => ?_)
  have H0 : ∀ (kq : Nat) (v417 : Int), slices_IndexFunc_int_int_3.l0 kq a0 p1 v417 = some r → AG Tryz.prog 109 19 [.c (.p (.sc (.int .i64 r)))] w0 (headStk (codeOf Tryz.f109) 0) (mkFS (slices_IndexFunc_int_int_3.h0T a0 gi1 u1_0_0 u1_0_1 u1_0_2 v417) (slices_IndexFunc_int_int_3.h0H a0 gi1 u1_0_0 u1_0_1 u1_0_2 v417)) := by
    intro kq
    induction kq with
    | zero => intro v417 h; cases h
    | succ kq ih =>
      intro v417 h
      rw [slices_IndexFunc_int_int_3.l0] at h
      by_cases c1326 : v417 < (a0.length : Int)
      · replace h := (if_pos c1326).symm.trans h
        obtain ⟨c1327, h⟩ := ifN h
        obtain ⟨t418, g1328, h⟩ := bindN h
        let C1328 := mkCon (hp1 (rdD 0 a0 v417) t418 g1328) go1
        by_cases c1329 : t418 = true
        · replace h := (if_pos c1329).symm.trans h
          cases h
          exact byRet MX Tryz.func109 1000 [.b true, .call C1328, .b true, .fin] (o1 (decide_eq_true c1326) (o1 c1327 (o1 c1326 (oa (sc_ C1328) (o1 c1329 on))))) (by kernel_rfl)
        · replace h := (if_neg c1329).symm.trans h
          exact byHead MX Tryz.func109 1000 [.b true, .call C1328, .b false, .fin] (o1 (decide_eq_true c1326) (o1 c1327 (o1 c1326 (oa (sc_ C1328) (o1 (eqf c1329) on))))) (ih (w64 (v417 + 1)) h) (by kernel_rfl)
      · replace h := (if_neg c1326).symm.trans h
        cases h
        exact byRet MX Tryz.func109 1000 [.b false, .fin, .fin] (o1 (decide_eq_false c1326) on) (by kernel_rfl)
  exact byHead MX Tryz.func109 1000 [.fin] on (H0 k 0 h) (by kernel_rfl)

/-! ### slices_ContainsFunc_int_int_3: function 49 -/
def slices_ContainsFunc_int_int_3.f (k : Nat) (a0 : List Int) (p1 : Int → Option Bool) : Option Bool := (slices_IndexFunc_int_int_3.f k a0 p1).bind fun t419 => some (decide (0 ≤ t419))
theorem slices_ContainsFunc_int_int_3.go : Callable Tryz.prog 49 := ⟨_, Tryz.func49, by kernel_rfl, rfl⟩
theorem slices_ContainsFunc_int_int_3.ok (k : Nat) (a0 : List Int) (p1 : Int → Option Bool) (gi1 : FuncId) (u1_0_0 u1_0_1 u1_0_2 : V) (hp1 : ∀ x0 r, p1 x0 = some r → VCalls Tryz.prog gi1 [.c (.sc (.int .i64 x0)), .ptr [u1_0_0, u1_0_1, u1_0_2]] [.c (.p (.sc (.bool r)))]) (go1 : Callable Tryz.prog gi1) (r : Bool) (h : slices_ContainsFunc_int_int_3.f k a0 p1 = some r) : VCalls Tryz.prog 49 [.c (R 1 (eI .i64) 0 a0), .fn gi1 [[u1_0_0, u1_0_1, u1_0_2]]] [.c (.p (.sc (.bool r)))] := by
  unfold slices_ContainsFunc_int_int_3.f at h
  refine VCalls.of (fn := Tryz.f49) (N := 9) Tryz.func49 rfl rfl (fun w0 => ?_)
  obtain ⟨t419, g1330, h⟩ := bindN h
  let C1330 := mkCon (slices_IndexFunc_int_int_3.ok k a0 p1 gi1 u1_0_0 u1_0_1 u1_0_2 hp1 go1 t419 g1330) slices_IndexFunc_int_int_3.go
  cases h
  exact byRet MX Tryz.func49 1000 [.call C1330, .fin] (oa (sc_ C1330) on) (by kernel_rfl)

/-! ### impl_WindowOk: function 39 -/
def impl_WindowOk.f (k : Nat) (a0 : S42) : Option Bool := if a0.f0 < 1 then (some false) else (if 8 < a0.f0 then (some false) else (if a0.f1 < 1 then (some false) else (if 100 < a0.f1 then (some false) else (if (a0.f2.length : Int) = (w64 (a0.f0 * 6)) then ((slices_ContainsFunc_int_int_3.f k a0.f2 (fun x1322 => impl_WindowOk_1.f x1322 a0)).bind fun t420 => some (!t420)) else (some false)))))
theorem impl_WindowOk.go : Callable Tryz.prog 39 := ⟨_, Tryz.func39, by kernel_rfl, rfl⟩
theorem impl_WindowOk.ok (k : Nat) (a0 : S42) (r : Bool) (h : impl_WindowOk.f k a0 = some r) : VCalls Tryz.prog 39 [.agg (e42 a0)] [.c (.p (.sc (.bool r)))] := by
  unfold impl_WindowOk.f at h
  refine VCalls.of (fn := Tryz.f39) (N := 35) Tryz.func39 rfl rfl (fun w0 => ?_)
  by_cases c1316 : a0.f0 < 1
  · replace h := (if_pos c1316).symm.trans h
    cases h
    exact byRet MX Tryz.func39 1000 [.dec 6 true, .b true, .fin] (o1 (decide_eq_true c1316) (o1 (rfl : true = true) on)) (by kernel_rfl)
  · replace h := (if_neg c1316).symm.trans h
    by_cases c1317 : 8 < a0.f0
    · replace h := (if_pos c1317).symm.trans h
      cases h
      exact byRet MX Tryz.func39 1000 [.dec 6 false, .dec 11 true, .b true, .fin] (o1 (decide_eq_false c1316) (o1 (decide_eq_true c1317) (o1 (rfl : true = true) on))) (by kernel_rfl)
    · replace h := (if_neg c1317).symm.trans h
      by_cases c1318 : a0.f1 < 1
      · replace h := (if_pos c1318).symm.trans h
        cases h
        exact byRet MX Tryz.func39 1000 [.dec 6 false, .dec 11 false, .dec 16 true, .b true, .fin] (o1 (decide_eq_false c1316) (o1 (decide_eq_false c1317) (o1 (decide_eq_true c1318) (o1 (rfl : true = true) on)))) (by kernel_rfl)
      · replace h := (if_neg c1318).symm.trans h
        by_cases c1319 : 100 < a0.f1
        · replace h := (if_pos c1319).symm.trans h
          cases h
          exact byRet MX Tryz.func39 1000 [.dec 6 false, .dec 11 false, .dec 16 false, .dec 21 true, .b true, .fin] (o1 (decide_eq_false c1316) (o1 (decide_eq_false c1317) (o1 (decide_eq_false c1318) (o1 (decide_eq_true c1319) (o1 (rfl : true = true) on))))) (by kernel_rfl)
        · replace h := (if_neg c1319).symm.trans h
          by_cases c1320 : (a0.f2.length : Int) = (w64 (a0.f0 * 6))
          · replace h := (if_pos c1320).symm.trans h
            obtain ⟨t420, g1331, h⟩ := bindN h
            let C1331 := mkCon (slices_ContainsFunc_int_int_3.ok k a0.f2 (fun x1322 => impl_WindowOk_1.f x1322 a0) 87 (.sc (.int .i64 a0.f0)) (.sc (.int .i64 a0.f1)) (R 1 (eI .i64) 0 a0.f2) (fun x1322 r h => impl_WindowOk_1.ok x1322 a0 r h) impl_WindowOk_1.go t420 g1331) slices_ContainsFunc_int_int_3.go
            cases h
            exact byRet MX Tryz.func39 1000 [.dec 6 false, .dec 11 false, .dec 16 false, .dec 21 false, .b false, .call C1331, .fin] (o1 (decide_eq_false c1316) (o1 (decide_eq_false c1317) (o1 (decide_eq_false c1318) (o1 (decide_eq_false c1319) (o1 (bnf (decide_eq_true c1320)) (oa (sc_ C1331) on)))))) (by kernel_rfl)
          · replace h := (if_neg c1320).symm.trans h
            cases h
            exact byRet MX Tryz.func39 1000 [.dec 6 false, .dec 11 false, .dec 16 false, .dec 21 false, .b true, .fin] (o1 (decide_eq_false c1316) (o1 (decide_eq_false c1317) (o1 (decide_eq_false c1318) (o1 (decide_eq_false c1319) (o1 (bnt (decide_eq_false c1320)) on))))) (by kernel_rfl)

/-! ### impl_jobsOk_1: function 126 -/
def impl_jobsOk_1.f (a0 : S65) (a1 : S45) : Option Bool := some (!decide ((a0.f0.length : Int) = (w64 (a1.f0 + 1))))
theorem impl_jobsOk_1.go : Callable Tryz.prog 126 := ⟨_, Tryz.func126, by kernel_rfl, rfl⟩
theorem impl_jobsOk_1.ok (a0 : S65) (a1 : S45) (r : Bool) (h : impl_jobsOk_1.f a0 a1 = some r) : VCalls Tryz.prog 126 [.agg (e65 a0), .ptr [.sc (.int .i64 a1.f0), .sc (.int .i64 a1.f1), R 1 e65 z65 a1.f2]] [.c (.p (.sc (.bool r)))] := by
  unfold impl_jobsOk_1.f at h
  refine VCalls.of (fn := Tryz.f126) (N := 11) Tryz.func126 rfl rfl (fun w0 => ?_)
  cases h
  exact byRet MX Tryz.func126 1000 [.fin] on (by kernel_rfl)

/-! ### slices_IndexFunc_impl_Way_impl_Way_3: function 141 -/
def slices_IndexFunc_impl_Way_impl_Way_3.h0T (a0 : List S65) (gi1 : FuncId) (u1_0_0 : V) (u1_0_1 : V) (u1_0_2 : V) (v423 : Int) : List (Nat × AV) := [(0, .t (.c (.p false (R 1 e65 z65 a0)))), (1, .bfn gi1 [[u1_0_0, u1_0_1, u1_0_2]]), (7, .t (.c (.p true (.sc (.int .i64 (a0.length : Int)))))), (8, .t (.c (.p true (.sc (.int .i64 v423)))))]
def slices_IndexFunc_impl_Way_impl_Way_3.h0H (a0 : List S65) (gi1 : FuncId) (u1_0_0 : V) (u1_0_1 : V) (u1_0_2 : V) (v423 : Int) : List (Nat × Content) := []
def slices_IndexFunc_impl_Way_impl_Way_3.l0 : Nat → List S65 → (S65 → Option Bool) → Int → Option Int
  | 0, _, _, _ => none
  | kq + 1, a0, p1, v423 => if v423 < (a0.length : Int) then (if 0 ≤ v423 then ((p1 (rdD z65 a0 v423)).bind fun t424 => if t424 = true then (some v423) else (slices_IndexFunc_impl_Way_impl_Way_3.l0 kq a0 p1 (w64 (v423 + 1)))) else none) else (some (-1))
def slices_IndexFunc_impl_Way_impl_Way_3.f (k : Nat) (a0 : List S65) (p1 : S65 → Option Bool) : Option Int := slices_IndexFunc_impl_Way_impl_Way_3.l0 k a0 p1 0
theorem slices_IndexFunc_impl_Way_impl_Way_3.go : Callable Tryz.prog 141 := ⟨_, Tryz.func141, by kernel_rfl, rfl⟩
theorem slices_IndexFunc_impl_Way_impl_Way_3.ok (k : Nat) (a0 : List S65) (p1 : S65 → Option Bool) (gi1 : FuncId) (u1_0_0 u1_0_1 u1_0_2 : V) (hp1 : ∀ x0 r, p1 x0 = some r → VCalls Tryz.prog gi1 [.agg (e65 x0), .ptr [u1_0_0, u1_0_1, u1_0_2]] [.c (.p (.sc (.bool r)))]) (go1 : Callable Tryz.prog gi1) (r : Int) (h : slices_IndexFunc_impl_Way_impl_Way_3.f k a0 p1 = some r) : VCalls Tryz.prog 141 [.c (R 1 e65 z65 a0), .fn gi1 [[u1_0_0, u1_0_1, u1_0_2]]] [.c (.p (.sc (.int .i64 r)))] := by
  unfold slices_IndexFunc_impl_Way_impl_Way_3.f at h
  refine VCalls.of (fn := Tryz.f141) (N := 19) Tryz.func141 rfl rfl (fun w0 => ?_)
  have H0 : ∀ (kq : Nat) (v423 : Int), slices_IndexFunc_impl_Way_impl_Way_3.l0 kq a0 p1 v423 = some r → AG Tryz.prog 141 19 [.c (.p (.sc (.int .i64 r)))] w0 (headStk (codeOf Tryz.f141) 0) (mkFS (slices_IndexFunc_impl_Way_impl_Way_3.h0T a0 gi1 u1_0_0 u1_0_1 u1_0_2 v423) (slices_IndexFunc_impl_Way_impl_Way_3.h0H a0 gi1 u1_0_0 u1_0_1 u1_0_2 v423)) := by
    intro kq
    induction kq with
    | zero => intro v423 h; cases h
    | succ kq ih =>
      intro v423 h
      rw [slices_IndexFunc_impl_Way_impl_Way_3.l0] at h
      by_cases c1348 : v423 < (a0.length : Int)
      · replace h := (if_pos c1348).symm.trans h
        obtain ⟨c1349, h⟩ := ifN h
        obtain ⟨t424, g1350, h⟩ := bindN h
        let C1350 := mkCon (hp1 (rdD z65 a0 v423) t424 g1350) go1
        by_cases c1351 : t424 = true
        · replace h := (if_pos c1351).symm.trans h
          cases h
          exact byRet MX Tryz.func141 1000 [.b true, .call C1350, .b true, .fin] (o1 (decide_eq_true c1348) (o1 c1349 (o1 c1348 (oa (sc_ C1350) (o1 c1351 on))))) (by kernel_rfl)
        · replace h := (if_neg c1351).symm.trans h
          exact byHead MX Tryz.func141 1000 [.b true, .call C1350, .b false, .fin] (o1 (decide_eq_true c1348) (o1 c1349 (o1 c1348 (oa (sc_ C1350) (o1 (eqf c1351) on))))) (ih (w64 (v423 + 1)) h) (by kernel_rfl)
      · replace h := (if_neg c1348).symm.trans h
        cases h
        exact byRet MX Tryz.func141 1000 [.b false, .fin, .fin] (o1 (decide_eq_false c1348) on) (by kernel_rfl)
  exact byHead MX Tryz.func141 1000 [.fin] on (H0 k 0 h) (by kernel_rfl)

/-! ### slices_ContainsFunc_impl_Way_impl_Way_3: function 125 -/
def slices_ContainsFunc_impl_Way_impl_Way_3.f (k : Nat) (a0 : List S65) (p1 : S65 → Option Bool) : Option Bool := (slices_IndexFunc_impl_Way_impl_Way_3.f k a0 p1).bind fun t425 => some (decide (0 ≤ t425))
theorem slices_ContainsFunc_impl_Way_impl_Way_3.go : Callable Tryz.prog 125 := ⟨_, Tryz.func125, by kernel_rfl, rfl⟩
theorem slices_ContainsFunc_impl_Way_impl_Way_3.ok (k : Nat) (a0 : List S65) (p1 : S65 → Option Bool) (gi1 : FuncId) (u1_0_0 u1_0_1 u1_0_2 : V) (hp1 : ∀ x0 r, p1 x0 = some r → VCalls Tryz.prog gi1 [.agg (e65 x0), .ptr [u1_0_0, u1_0_1, u1_0_2]] [.c (.p (.sc (.bool r)))]) (go1 : Callable Tryz.prog gi1) (r : Bool) (h : slices_ContainsFunc_impl_Way_impl_Way_3.f k a0 p1 = some r) : VCalls Tryz.prog 125 [.c (R 1 e65 z65 a0), .fn gi1 [[u1_0_0, u1_0_1, u1_0_2]]] [.c (.p (.sc (.bool r)))] := by
  unfold slices_ContainsFunc_impl_Way_impl_Way_3.f at h
  refine VCalls.of (fn := Tryz.f125) (N := 9) Tryz.func125 rfl rfl (fun w0 => ?_)
  obtain ⟨t425, g1352, h⟩ := bindN h
  let C1352 := mkCon (slices_IndexFunc_impl_Way_impl_Way_3.ok k a0 p1 gi1 u1_0_0 u1_0_1 u1_0_2 hp1 go1 t425 g1352) slices_IndexFunc_impl_Way_impl_Way_3.go
  cases h
  exact byRet MX Tryz.func125 1000 [.call C1352, .fin] (oa (sc_ C1352) on) (by kernel_rfl)

/-! ### impl_compare: function 144 -/
def impl_compare.f (a0 : Int) (a1 : Int) : Option Int := if a0 < a1 then (some (-1)) else (if a1 < a0 then (some 1) else (some 0))
theorem impl_compare.go : Callable Tryz.prog 144 := ⟨_, Tryz.func144, by kernel_rfl, rfl⟩
theorem impl_compare.ok (a0 : Int) (a1 : Int) (r : Int) (h : impl_compare.f a0 a1 = some r) : VCalls Tryz.prog 144 [.c (.sc (.int .i64 a0)), .c (.sc (.int .i64 a1))] [.c (.p (.sc (.int .i64 r)))] := by
  unfold impl_compare.f at h
  refine VCalls.of (fn := Tryz.f144) (N := 13) Tryz.func144 rfl rfl (fun w0 => ?_)
  by_cases c1356 : a0 < a1
  · replace h := (if_pos c1356).symm.trans h
    cases h
    exact byRet MX Tryz.func144 1000 [.b true, .fin] (o1 (decide_eq_true c1356) on) (by kernel_rfl)
  · replace h := (if_neg c1356).symm.trans h
    by_cases c1357 : a1 < a0
    · replace h := (if_pos c1357).symm.trans h
      cases h
      exact byRet MX Tryz.func144 1000 [.b false, .b true, .fin] (o1 (decide_eq_false c1356) (o1 (decide_eq_true c1357) on)) (by kernel_rfl)
    · replace h := (if_neg c1357).symm.trans h
      cases h
      exact byRet MX Tryz.func144 1000 [.b false, .b false, .fin] (o1 (decide_eq_false c1356) (o1 (decide_eq_false c1357) on)) (by kernel_rfl)

/-! ### impl_LayerOf_1: function 143 -/
def impl_LayerOf_1.f (a0 : S69) (a1 : S69) : Option Int := (impl_compare.f a0.f1 a1.f1).bind fun t427 => some t427
theorem impl_LayerOf_1.go : Callable Tryz.prog 143 := ⟨_, Tryz.func143, by kernel_rfl, rfl⟩
theorem impl_LayerOf_1.ok (a0 : S69) (a1 : S69) (r : Int) (h : impl_LayerOf_1.f a0 a1 = some r) : VCalls Tryz.prog 143 [.agg (e69 a0), .agg (e69 a1)] [.c (.p (.sc (.int .i64 r)))] := by
  unfold impl_LayerOf_1.f at h
  refine VCalls.of (fn := Tryz.f143) (N := 10) Tryz.func143 rfl rfl (fun w0 => ?_)
  obtain ⟨t427, g1358, h⟩ := bindN h
  let C1358 := mkCon (impl_compare.ok a0.f1 a1.f1 t427 g1358) impl_compare.go
  cases h
  exact byRet MX Tryz.func143 1000 [.call C1358, .fin] (oa (sc_ C1358) on) (by kernel_rfl)

/-! ### slices_MinFunc_impl_Job_impl_Job_: function 142 -/
def slices_MinFunc_impl_Job_impl_Job_.h0T (a0 : List S69) (gi1 : FuncId) (v441 : Int) (v438 : Int) (v439 : Int) (v440 : Bool) : List (Nat × AV) := [(0, .t (.c (.p false (R 3 e69 z69 a0)))), (1, .bfn gi1 []), (4, .ptr 256 0), (5, .ptr 320 0), (6, .t (.c (.p true (.sc (.int .i64 v441)))))]
def slices_MinFunc_impl_Job_impl_Job_.h0H (a0 : List S69) (gi1 : FuncId) (v441 : Int) (v438 : Int) (v439 : Int) (v440 : Bool) : List (Nat × Content) := [(256, .box 69 [.p true (.sc (.int .i64 0)), .p true (.sc (.int .i64 0)), .p true (.sc (.bool false))]), (320, .box 69 [.p false (.sc (.int .i64 v438)), .p false (.sc (.int .i64 v439)), .p false (.sc (.bool v440))])]
def slices_MinFunc_impl_Job_impl_Job_.l0 : Nat → List S69 → (S69 → S69 → Option Int) → Int → Int → Bool → Int → Option S69
  | 0, _, _, _, _, _, _ => none
  | kq + 1, a0, p1, v438, v439, v440, v441 => if v441 < (a0.length : Int) then (if 0 ≤ v441 then ((p1 (rdD z69 a0 v441) (⟨v438, v439, v440⟩ : S69)).bind fun t442 => if t442 < 0 then (slices_MinFunc_impl_Job_impl_Job_.l0 kq a0 p1 ((rdD z69 a0 v441).f0) ((rdD z69 a0 v441).f1) ((rdD z69 a0 v441).f2) (w64 (v441 + 1))) else (slices_MinFunc_impl_Job_impl_Job_.l0 kq a0 p1 v438 v439 v440 (w64 (v441 + 1)))) else none) else (some (⟨v438, v439, v440⟩ : S69))
def slices_MinFunc_impl_Job_impl_Job_.f (k : Nat) (a0 : List S69) (p1 : S69 → S69 → Option Int) : Option S69 := if (a0.length : Int) < 1 then (none) else (if 0 < (a0.length : Int) then (slices_MinFunc_impl_Job_impl_Job_.l0 k a0 p1 ((rdD z69 a0 0).f0) ((rdD z69 a0 0).f1) ((rdD z69 a0 0).f2) 1) else none)
theorem slices_MinFunc_impl_Job_impl_Job_.go : Callable Tryz.prog 142 := ⟨_, Tryz.func142, by kernel_rfl, rfl⟩
theorem slices_MinFunc_impl_Job_impl_Job_.ok (k : Nat) (a0 : List S69) (p1 : S69 → S69 → Option Int) (gi1 : FuncId) (hp1 : ∀ x0 x1 r, p1 x0 x1 = some r → VCalls Tryz.prog gi1 [.agg (e69 x0), .agg (e69 x1)] [.c (.p (.sc (.int .i64 r)))]) (go1 : Callable Tryz.prog gi1) (r : S69) (h : slices_MinFunc_impl_Job_impl_Job_.f k a0 p1 = some r) : VCalls Tryz.prog 142 [.c (R 3 e69 z69 a0), .fn gi1 []] [.agg (r69 r)] := by
  unfold slices_MinFunc_impl_Job_impl_Job_.f at h
  refine VCalls.of (fn := Tryz.f142) (N := 33) Tryz.func142 rfl rfl (fun w0 => ?_)
  by_cases c1361 : (a0.length : Int) < 1
  · replace h := (if_pos c1361).symm.trans h
    cases h
  · replace h := (if_neg c1361).symm.trans h
    obtain ⟨c1362, h⟩ := ifN h
    have H0 : ∀ (kq : Nat) (v438 : Int) (v439 : Int) (v440 : Bool) (v441 : Int), slices_MinFunc_impl_Job_impl_Job_.l0 kq a0 p1 v438 v439 v440 v441 = some r → AG Tryz.prog 142 33 [.agg (r69 r)] w0 (headStk (codeOf Tryz.f142) 0) (mkFS (slices_MinFunc_impl_Job_impl_Job_.h0T a0 gi1 v441 v438 v439 v440) (slices_MinFunc_impl_Job_impl_Job_.h0H a0 gi1 v441 v438 v439 v440)) := by
      intro kq
      induction kq with
      | zero => intro v438 v439 v440 v441 h; cases h
      | succ kq ih =>
        intro v438 v439 v440 v441 h
        rw [slices_MinFunc_impl_Job_impl_Job_.l0] at h
        by_cases c1378 : v441 < (a0.length : Int)
        · replace h := (if_pos c1378).symm.trans h
          obtain ⟨c1379, h⟩ := ifN h
          obtain ⟨t442, g1380, h⟩ := bindN h
          let C1380 := mkCon (hp1 (rdD z69 a0 v441) (⟨v438, v439, v440⟩ : S69) t442 g1380) go1
          by_cases c1381 : t442 < 0
          · replace h := (if_pos c1381).symm.trans h
            exact byHead MX Tryz.func142 1000 [.b true, .call C1380, .b true, .fin] (o1 (decide_eq_true c1378) (o1 c1379 (o1 c1378 (oa (sc_ C1380) (o1 (decide_eq_true c1381) (o1 c1379 (o1 c1378 on))))))) (ih ((rdD z69 a0 v441).f0) ((rdD z69 a0 v441).f1) ((rdD z69 a0 v441).f2) (w64 (v441 + 1)) h) (by kernel_rfl)
          · replace h := (if_neg c1381).symm.trans h
            exact byHead MX Tryz.func142 1000 [.b true, .call C1380, .b false, .fin] (o1 (decide_eq_true c1378) (o1 c1379 (o1 c1378 (oa (sc_ C1380) (o1 (decide_eq_false c1381) on))))) (ih v438 v439 v440 (w64 (v441 + 1)) h) (by kernel_rfl)
        · replace h := (if_neg c1378).symm.trans h
          cases h
          exact byRet MX Tryz.func142 1000 [.b false, .fin, .fin] (o1 (decide_eq_false c1378) on) (by kernel_rfl)
    exact byHead MX Tryz.func142 1000 [.b false, .fin] (o1 (decide_eq_false c1361) (o1 (by decide : (0 : Int) ≤ 0) (o1 c1362 on))) (H0 k ((rdD z69 a0 0).f0) ((rdD z69 a0 0).f1) ((rdD z69 a0 0).f2) 1 h) (by kernel_rfl)

/-! ### impl_LayerOf: function 127 -/
def impl_LayerOf.f (k : Nat) (a0 : S48) : Option Int := if (a0.f6.length : Int) = 0 then (some (-1)) else ((slices_MinFunc_impl_Job_impl_Job_.f k a0.f6 (fun x1359 x1360 => impl_LayerOf_1.f x1359 x1360)).bind fun t443 => some t443.f1)
theorem impl_LayerOf.go : Callable Tryz.prog 127 := ⟨_, Tryz.func127, by kernel_rfl, rfl⟩
theorem impl_LayerOf.ok (k : Nat) (a0 : S48) (r : Int) (h : impl_LayerOf.f k a0 = some r) : VCalls Tryz.prog 127 [.agg (e48 a0)] [.c (.p (.sc (.int .i64 r)))] := by
  unfold impl_LayerOf.f at h
  refine VCalls.of (fn := Tryz.f127) (N := 11) Tryz.func127 rfl rfl (fun w0 => ?_)
  by_cases c1355 : (a0.f6.length : Int) = 0
  · replace h := (if_pos c1355).symm.trans h
    cases h
    exact byRet MX Tryz.func127 1000 [.b true, .fin] (o1 (decide_eq_true c1355) on) (by kernel_rfl)
  · replace h := (if_neg c1355).symm.trans h
    obtain ⟨t443, g1382, h⟩ := bindN h
    let C1382 := mkCon (slices_MinFunc_impl_Job_impl_Job_.ok k a0.f6 (fun x1359 x1360 => impl_LayerOf_1.f x1359 x1360) 143  (fun x1359 x1360 r h => impl_LayerOf_1.ok x1359 x1360 r h) impl_LayerOf_1.go t443 g1382) slices_MinFunc_impl_Job_impl_Job_.go
    cases h
    exact byRet MX Tryz.func127 1000 [.b false, .call C1382, .fin] (o1 (decide_eq_false c1355) (oa (sc_ C1382) on)) (by kernel_rfl)

/-! ### impl_RobotAt_1: function 152 -/
def impl_RobotAt_1.f (a0 : S71) (a1 : Int) : Option Bool := some (decide (a0.f0 = a1))
theorem impl_RobotAt_1.go : Callable Tryz.prog 152 := ⟨_, Tryz.func152, by kernel_rfl, rfl⟩
theorem impl_RobotAt_1.ok (a0 : S71) (a1 : Int) (r : Bool) (h : impl_RobotAt_1.f a0 a1 = some r) : VCalls Tryz.prog 152 [.agg (e71 a0), .ptr [.sc (.int .i64 a1)]] [.c (.p (.sc (.bool r)))] := by
  unfold impl_RobotAt_1.f at h
  refine VCalls.of (fn := Tryz.f152) (N := 8) Tryz.func152 rfl rfl (fun w0 => ?_)
  cases h
  exact byRet MX Tryz.func152 1000 [.fin] on (by kernel_rfl)

/-! ### slices_IndexFunc_impl_Robot_impl_Robot_1: function 151 -/
def slices_IndexFunc_impl_Robot_impl_Robot_1.h0T (a0 : List S71) (gi1 : FuncId) (u1_0_0 : V) (v446 : Int) : List (Nat × AV) := [(0, .t (.c (.p false (R 4 e71 z71 a0)))), (1, .bfn gi1 [[u1_0_0]]), (7, .t (.c (.p true (.sc (.int .i64 (a0.length : Int)))))), (8, .t (.c (.p true (.sc (.int .i64 v446)))))]
def slices_IndexFunc_impl_Robot_impl_Robot_1.h0H (a0 : List S71) (gi1 : FuncId) (u1_0_0 : V) (v446 : Int) : List (Nat × Content) := []
def slices_IndexFunc_impl_Robot_impl_Robot_1.l0 : Nat → List S71 → (S71 → Option Bool) → Int → Option Int
  | 0, _, _, _ => none
  | kq + 1, a0, p1, v446 => if v446 < (a0.length : Int) then (if 0 ≤ v446 then ((p1 (rdD z71 a0 v446)).bind fun t447 => if t447 = true then (some v446) else (slices_IndexFunc_impl_Robot_impl_Robot_1.l0 kq a0 p1 (w64 (v446 + 1)))) else none) else (some (-1))
def slices_IndexFunc_impl_Robot_impl_Robot_1.f (k : Nat) (a0 : List S71) (p1 : S71 → Option Bool) : Option Int := slices_IndexFunc_impl_Robot_impl_Robot_1.l0 k a0 p1 0
theorem slices_IndexFunc_impl_Robot_impl_Robot_1.go : Callable Tryz.prog 151 := ⟨_, Tryz.func151, by kernel_rfl, rfl⟩
theorem slices_IndexFunc_impl_Robot_impl_Robot_1.ok (k : Nat) (a0 : List S71) (p1 : S71 → Option Bool) (gi1 : FuncId) (u1_0_0 : V) (hp1 : ∀ x0 r, p1 x0 = some r → VCalls Tryz.prog gi1 [.agg (e71 x0), .ptr [u1_0_0]] [.c (.p (.sc (.bool r)))]) (go1 : Callable Tryz.prog gi1) (r : Int) (h : slices_IndexFunc_impl_Robot_impl_Robot_1.f k a0 p1 = some r) : VCalls Tryz.prog 151 [.c (R 4 e71 z71 a0), .fn gi1 [[u1_0_0]]] [.c (.p (.sc (.int .i64 r)))] := by
  unfold slices_IndexFunc_impl_Robot_impl_Robot_1.f at h
  refine VCalls.of (fn := Tryz.f151) (N := 19) Tryz.func151 rfl rfl (fun w0 => ?_)
  have H0 : ∀ (kq : Nat) (v446 : Int), slices_IndexFunc_impl_Robot_impl_Robot_1.l0 kq a0 p1 v446 = some r → AG Tryz.prog 151 19 [.c (.p (.sc (.int .i64 r)))] w0 (headStk (codeOf Tryz.f151) 0) (mkFS (slices_IndexFunc_impl_Robot_impl_Robot_1.h0T a0 gi1 u1_0_0 v446) (slices_IndexFunc_impl_Robot_impl_Robot_1.h0H a0 gi1 u1_0_0 v446)) := by
    intro kq
    induction kq with
    | zero => intro v446 h; cases h
    | succ kq ih =>
      intro v446 h
      rw [slices_IndexFunc_impl_Robot_impl_Robot_1.l0] at h
      by_cases c1392 : v446 < (a0.length : Int)
      · replace h := (if_pos c1392).symm.trans h
        obtain ⟨c1393, h⟩ := ifN h
        obtain ⟨t447, g1394, h⟩ := bindN h
        let C1394 := mkCon (hp1 (rdD z71 a0 v446) t447 g1394) go1
        by_cases c1395 : t447 = true
        · replace h := (if_pos c1395).symm.trans h
          cases h
          exact byRet MX Tryz.func151 1000 [.b true, .call C1394, .b true, .fin] (o1 (decide_eq_true c1392) (o1 c1393 (o1 c1392 (oa (sc_ C1394) (o1 c1395 on))))) (by kernel_rfl)
        · replace h := (if_neg c1395).symm.trans h
          exact byHead MX Tryz.func151 1000 [.b true, .call C1394, .b false, .fin] (o1 (decide_eq_true c1392) (o1 c1393 (o1 c1392 (oa (sc_ C1394) (o1 (eqf c1395) on))))) (ih (w64 (v446 + 1)) h) (by kernel_rfl)
      · replace h := (if_neg c1392).symm.trans h
        cases h
        exact byRet MX Tryz.func151 1000 [.b false, .fin, .fin] (o1 (decide_eq_false c1392) on) (by kernel_rfl)
  exact byHead MX Tryz.func151 1000 [.fin] on (H0 k 0 h) (by kernel_rfl)

/-! ### impl_RobotAt: function 145 -/
def impl_RobotAt.f (k : Nat) (a0 : List S71) (a1 : Int) : Option Int := (slices_IndexFunc_impl_Robot_impl_Robot_1.f k a0 (fun x1388 => impl_RobotAt_1.f x1388 a1)).bind fun t448 => some t448
theorem impl_RobotAt.go : Callable Tryz.prog 145 := ⟨_, Tryz.func145, by kernel_rfl, rfl⟩
theorem impl_RobotAt.ok (k : Nat) (a0 : List S71) (a1 : Int) (r : Int) (h : impl_RobotAt.f k a0 a1 = some r) : VCalls Tryz.prog 145 [.c (R 4 e71 z71 a0), .c (.sc (.int .i64 a1))] [.c (.p (.sc (.int .i64 r)))] := by
  unfold impl_RobotAt.f at h
  refine VCalls.of (fn := Tryz.f145) (N := 8) Tryz.func145 rfl rfl (fun w0 => ?_)
  obtain ⟨t448, g1396, h⟩ := bindN h
  let C1396 := mkCon (slices_IndexFunc_impl_Robot_impl_Robot_1.ok k a0 (fun x1388 => impl_RobotAt_1.f x1388 a1) 152 (.sc (.int .i64 a1)) (fun x1388 r h => impl_RobotAt_1.ok x1388 a1 r h) impl_RobotAt_1.go t448 g1396) slices_IndexFunc_impl_Robot_impl_Robot_1.go
  cases h
  exact byRet MX Tryz.func145 1000 [.call C1396, .fin] (oa (sc_ C1396) on) (by kernel_rfl)

/-! ### impl_isJob_1: function 146 -/
def impl_isJob_1.f (a0 : S69) (a1 : S69) : Option Bool := some (decide (a0.f0 = a1.f0))
theorem impl_isJob_1.go : Callable Tryz.prog 146 := ⟨_, Tryz.func146, by kernel_rfl, rfl⟩
theorem impl_isJob_1.ok (a0 : S69) (a1 : S69) (r : Bool) (h : impl_isJob_1.f a0 a1 = some r) : VCalls Tryz.prog 146 [.agg (e69 a0), .ptr [.sc (.int .i64 a1.f0), .sc (.int .i64 a1.f1), .sc (.bool a1.f2)]] [.c (.p (.sc (.bool r)))] := by
  unfold impl_isJob_1.f at h
  refine VCalls.of (fn := Tryz.f146) (N := 9) Tryz.func146 rfl rfl (fun w0 => ?_)
  cases h
  exact byRet MX Tryz.func146 1000 [.fin] on (by kernel_rfl)

/-! ### slices_IndexFunc_impl_Job_impl_Job_3: function 108 -/
def slices_IndexFunc_impl_Job_impl_Job_3.h0T (a0 : List S69) (gi1 : FuncId) (u1_0_0 : V) (u1_0_1 : V) (u1_0_2 : V) (v451 : Int) : List (Nat × AV) := [(0, .t (.c (.p false (R 3 e69 z69 a0)))), (1, .bfn gi1 [[u1_0_0, u1_0_1, u1_0_2]]), (7, .t (.c (.p true (.sc (.int .i64 (a0.length : Int)))))), (8, .t (.c (.p true (.sc (.int .i64 v451)))))]
def slices_IndexFunc_impl_Job_impl_Job_3.h0H (a0 : List S69) (gi1 : FuncId) (u1_0_0 : V) (u1_0_1 : V) (u1_0_2 : V) (v451 : Int) : List (Nat × Content) := []
def slices_IndexFunc_impl_Job_impl_Job_3.l0 : Nat → List S69 → (S69 → Option Bool) → Int → Option Int
  | 0, _, _, _ => none
  | kq + 1, a0, p1, v451 => if v451 < (a0.length : Int) then (if 0 ≤ v451 then ((p1 (rdD z69 a0 v451)).bind fun t452 => if t452 = true then (some v451) else (slices_IndexFunc_impl_Job_impl_Job_3.l0 kq a0 p1 (w64 (v451 + 1)))) else none) else (some (-1))
def slices_IndexFunc_impl_Job_impl_Job_3.f (k : Nat) (a0 : List S69) (p1 : S69 → Option Bool) : Option Int := slices_IndexFunc_impl_Job_impl_Job_3.l0 k a0 p1 0
theorem slices_IndexFunc_impl_Job_impl_Job_3.go : Callable Tryz.prog 108 := ⟨_, Tryz.func108, by kernel_rfl, rfl⟩
theorem slices_IndexFunc_impl_Job_impl_Job_3.ok (k : Nat) (a0 : List S69) (p1 : S69 → Option Bool) (gi1 : FuncId) (u1_0_0 u1_0_1 u1_0_2 : V) (hp1 : ∀ x0 r, p1 x0 = some r → VCalls Tryz.prog gi1 [.agg (e69 x0), .ptr [u1_0_0, u1_0_1, u1_0_2]] [.c (.p (.sc (.bool r)))]) (go1 : Callable Tryz.prog gi1) (r : Int) (h : slices_IndexFunc_impl_Job_impl_Job_3.f k a0 p1 = some r) : VCalls Tryz.prog 108 [.c (R 3 e69 z69 a0), .fn gi1 [[u1_0_0, u1_0_1, u1_0_2]]] [.c (.p (.sc (.int .i64 r)))] := by
  unfold slices_IndexFunc_impl_Job_impl_Job_3.f at h
  refine VCalls.of (fn := Tryz.f108) (N := 19) Tryz.func108 rfl rfl (fun w0 => ?_)
  have H0 : ∀ (kq : Nat) (v451 : Int), slices_IndexFunc_impl_Job_impl_Job_3.l0 kq a0 p1 v451 = some r → AG Tryz.prog 108 19 [.c (.p (.sc (.int .i64 r)))] w0 (headStk (codeOf Tryz.f108) 0) (mkFS (slices_IndexFunc_impl_Job_impl_Job_3.h0T a0 gi1 u1_0_0 u1_0_1 u1_0_2 v451) (slices_IndexFunc_impl_Job_impl_Job_3.h0H a0 gi1 u1_0_0 u1_0_1 u1_0_2 v451)) := by
    intro kq
    induction kq with
    | zero => intro v451 h; cases h
    | succ kq ih =>
      intro v451 h
      rw [slices_IndexFunc_impl_Job_impl_Job_3.l0] at h
      by_cases c1410 : v451 < (a0.length : Int)
      · replace h := (if_pos c1410).symm.trans h
        obtain ⟨c1411, h⟩ := ifN h
        obtain ⟨t452, g1412, h⟩ := bindN h
        let C1412 := mkCon (hp1 (rdD z69 a0 v451) t452 g1412) go1
        by_cases c1413 : t452 = true
        · replace h := (if_pos c1413).symm.trans h
          cases h
          exact byRet MX Tryz.func108 1000 [.b true, .call C1412, .b true, .fin] (o1 (decide_eq_true c1410) (o1 c1411 (o1 c1410 (oa (sc_ C1412) (o1 c1413 on))))) (by kernel_rfl)
        · replace h := (if_neg c1413).symm.trans h
          exact byHead MX Tryz.func108 1000 [.b true, .call C1412, .b false, .fin] (o1 (decide_eq_true c1410) (o1 c1411 (o1 c1410 (oa (sc_ C1412) (o1 (eqf c1413) on))))) (ih (w64 (v451 + 1)) h) (by kernel_rfl)
      · replace h := (if_neg c1410).symm.trans h
        cases h
        exact byRet MX Tryz.func108 1000 [.b false, .fin, .fin] (o1 (decide_eq_false c1410) on) (by kernel_rfl)
  exact byHead MX Tryz.func108 1000 [.fin] on (H0 k 0 h) (by kernel_rfl)
end Go.Proofs.YtnnppdjmhellcaaGreat.V
