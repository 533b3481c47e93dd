/- What each Go function computes, and that the machine does so: printed by a program of this session (avgen.py). -/
import Derived.Test.YtoaknaceaghclaaGreatV0
namespace Go.Proofs.YtoaknaceaghclaaGreat.V
open Go Go.Av Go.Proofs
set_option linter.unusedVariables false
set_option maxRecDepth 100000
/-! ### spec_Around: function 203 -/
def spec_Around.h0T (v88 : Int) (a0 : S38) (v87 : List Int) (t80 : Int) (t81 : Int) (t82 : Int) (t83 : Int) : List (Nat × AV) := [(2, .ptr 128 0), (5, .t (.c (.h 640))), (8, .t (.c (.h 2688))), (9, .t (.c (.p true (.sc (.int .i64 v88)))))]
def spec_Around.h0H (v88 : Int) (a0 : S38) (v87 : List Int) (t80 : Int) (t81 : Int) (t82 : Int) (t83 : Int) : List (Nat × Content) := [(128, .box 38 [.p false (.sc (.int .i64 a0.f0)), .p false (.sc (.int .i64 a0.f1)), .p false (.sc (.string a0.f2))]), (640, .row 3 1 v87.length (fun j => (eI .i64) (v87.getD j 0)) true), (2688, .row 3 1 ([t80, t81, t82, t83]).length (fun j => (eI .i64) (([t80, t81, t82, t83]).getD j 0)) true)]
def spec_Around.l0 : Nat → Int → Int → Int → Int → S38 → List Int → Int → Option (List Int)
  | 0, _, _, _, _, _, _, _ => none
  | kq + 1, t80, t81, t82, t83, a0, v87, v88 => if v88 < 4 then (if 0 ≤ v88 then (if v88 < (([t80, t81, t82, t83]).length : Int) then ((spec_FreeAt.f kq a0 (rdD 0 ([t80, t81, t82, t83]) v88)).bind fun t89 => if t89 = true then (if (v87.length + 1) * 8 ≤ 140737488355328 then (spec_Around.l0 kq t80 t81 t82 t83 a0 (v87 ++ [(rdD 0 ([t80, t81, t82, t83]) v88)]) (w64 (v88 + 1))) else none) else (spec_Around.l0 kq t80 t81 t82 t83 a0 v87 (w64 (v88 + 1)))) else none) else none) else (some v87)
def spec_Around.f (k : Nat) (a0 : S38) (a1 : Int) : Option (List Int) := (spec_FreeAt.f k a0 a1).bind fun t74 => if t74 = true then ((spec_SpotOf.f k a0 a1).bind fun t76 => (spec_CellAt.f k a0 t76.1 (w64 (t76.2 - 1))).bind fun t80 => (spec_CellAt.f k a0 (w64 (t76.1 - 1)) t76.2).bind fun t81 => (spec_CellAt.f k a0 (w64 (t76.1 + 1)) t76.2).bind fun t82 => (spec_CellAt.f k a0 t76.1 (w64 (t76.2 + 1))).bind fun t83 => spec_Around.l0 k t80 t81 t82 t83 a0 ([] : List Int) 0) else (some ([] : List Int))
theorem spec_Around.go : Callable Tryz.prog 203 := ⟨_, Tryz.func203, by kernel_rfl, rfl⟩
theorem spec_Around.ok (k : Nat) (a0 : S38) (a1 : Int) (r : (List Int)) (h : spec_Around.f k a0 a1 = some r) : VCalls Tryz.prog 203 [.agg (e38 a0), .c (.sc (.int .i64 a1))] [.c (.own 3 1 r.length (fun j => (eI .i64) (r.getD j 0)))] := by
  unfold spec_Around.f at h
  refine VCalls.of (fn := Tryz.f203) (N := 61) Tryz.func203 rfl rfl (fun w0 => ?_)
  obtain ⟨t74, g179, h⟩ := bindN h
  let C179 := mkCon (spec_FreeAt.ok k a0 a1 t74 g179) spec_FreeAt.go
  by_cases c180 : t74 = true
  · replace h := (if_pos c180).symm.trans h
    obtain ⟨t76, g186, h⟩ := bindN h
    let C186 := mkCon (spec_SpotOf.ok k a0 a1 t76 g186) spec_SpotOf.go
    obtain ⟨t80, g193, h⟩ := bindN h
    let C193 := mkCon (spec_CellAt.ok k a0 t76.1 (w64 (t76.2 - 1)) t80 g193) spec_CellAt.go
    obtain ⟨t81, g194, h⟩ := bindN h
    let C194 := mkCon (spec_CellAt.ok k a0 (w64 (t76.1 - 1)) t76.2 t81 g194) spec_CellAt.go
    obtain ⟨t82, g195, h⟩ := bindN h
    let C195 := mkCon (spec_CellAt.ok k a0 (w64 (t76.1 + 1)) t76.2 t82 g195) spec_CellAt.go
    obtain ⟨t83, g196, h⟩ := bindN h
    let C196 := mkCon (spec_CellAt.ok k a0 t76.1 (w64 (t76.2 + 1)) t83 g196) spec_CellAt.go
    have H0 : ∀ (kq : Nat) (v87 : List Int) (v88 : Int), spec_Around.l0 kq t80 t81 t82 t83 a0 v87 v88 = some r → AG Tryz.prog 203 61 [.c (.own 3 1 r.length (fun j => (eI .i64) (r.getD j 0)))] w0 (headStk (codeOf Tryz.f203) 0) (mkFS (spec_Around.h0T v88 a0 v87 t80 t81 t82 t83) (spec_Around.h0H v88 a0 v87 t80 t81 t82 t83)) := by
      intro kq
      induction kq with
      | zero => intro v87 v88 h; cases h
      | succ kq ih =>
        intro v87 v88 h
        rw [spec_Around.l0] at h
        by_cases c208 : v88 < 4
        · replace h := (if_pos c208).symm.trans h
          obtain ⟨c209, h⟩ := ifN h
          obtain ⟨c210, h⟩ := ifN h
          obtain ⟨t89, g211, h⟩ := bindN h
          let C211 := mkCon (spec_FreeAt.ok kq a0 (rdD 0 ([t80, t81, t82, t83]) v88) t89 g211) spec_FreeAt.go
          by_cases c212 : t89 = true
          · replace h := (if_pos c212).symm.trans h
            obtain ⟨c213, h⟩ := ifN h
            exact byHead MX Tryz.func203 1000 [.b true, .call C211, .b true, rowe 58 (eI .i64) 0 ([(rdD 0 ([t80, t81, t82, t83]) v88)]), .aft 59, orow 640 (eI .i64) 0 (v87 ++ [(rdD 0 ([t80, t81, t82, t83]) v88)]), .fin] (o1 (decide_eq_true c208) (o1 c209 (o1 c210 (oa (sc_ C211) (o1 c212 (o1 c209 (o1 c210 (o1 (GE.lit 1 (eI .i64) 0 [(rdD 0 ([t80, t81, t82, t83]) v88)] (by intro x; rfl)) (o1 c213 (o1 (GE.app (e := (eI .i64)) (d := 0) v87 ([(rdD 0 ([t80, t81, t82, t83]) v88)]) rfl (fun _ _ => CE.refl _) rfl) on)))))))))) (ih (v87 ++ [(rdD 0 ([t80, t81, t82, t83]) v88)]) (w64 (v88 + 1)) h) (by kernel_rfl)
          · replace h := (if_neg c212).symm.trans h
            exact byHead MX Tryz.func203 1000 [.b true, .call C211, .b false, .fin] (o1 (decide_eq_true c208) (o1 c209 (o1 c210 (oa (sc_ C211) (o1 (eqf c212) on))))) (ih v87 (w64 (v88 + 1)) h) (by kernel_rfl)
        · replace h := (if_neg c208).symm.trans h
          cases h
          exact byRet MX Tryz.func203 1000 [.b false, .fin, .fin] (o1 (decide_eq_false c208) on) (by kernel_rfl)
    exact byHead MX Tryz.func203 1000 [rowe 10 (eI .i64) 0 ([] : List Int), .call C179, .b false, .call C186, .call C193, .call C194, .call C195, .call C196, rowe 42 (eI .i64) 0 ([t80, t81, t82, t83]), .fin] (o1 (GE.lit 1 (eI .i64) 0 ([] : List Int) (by intro x; rfl)) (oa (sc_ C179) (o1 (bnf c180) (oa (sc_ C186) (oa (sc_ C193) (oa (sc_ C194) (oa (sc_ C195) (oa (sc_ C196) (o1 (GE.lit 1 (eI .i64) 0 [t80, t81, t82, t83] (by intro x; rfl)) on))))))))) (H0 k ([] : List Int) 0 h) (by kernel_rfl)
  · replace h := (if_neg c180).symm.trans h
    cases h
    exact byRet MX Tryz.func203 1000 [rowe 10 (eI .i64) 0 ([] : List Int), .call C179, .b true, .fin] (o1 (GE.lit 1 (eI .i64) 0 ([] : List Int) (by intro x; rfl)) (oa (sc_ C179) (o1 (bnt (eqf c180)) on))) (by kernel_rfl)

/-! ### spec_l03Has: function 83 -/
def spec_l03Has.h0T (a0 : List Int) (a1 : Int) (v91 : Int) : List (Nat × AV) := [(0, .t (.c (.p false (R 1 (eI .i64) 0 a0)))), (1, .t (.c (.p false (.sc (.int .i64 a1))))), (5, .t (.c (.p true (.sc (.int .i64 v91)))))]
def spec_l03Has.h0H (a0 : List Int) (a1 : Int) (v91 : Int) : List (Nat × Content) := []
def spec_l03Has.l0 : Nat → List Int → Int → Int → Option Bool
  | 0, _, _, _ => none
  | kq + 1, a0, a1, v91 => if v91 < (a0.length : Int) then (if 0 ≤ v91 then (if (rdD 0 a0 v91) = a1 then (some true) else (spec_l03Has.l0 kq a0 a1 (w64 (v91 + 1)))) else none) else (some false)
def spec_l03Has.f (k : Nat) (a0 : List Int) (a1 : Int) : Option Bool := spec_l03Has.l0 k a0 a1 0
theorem spec_l03Has.go : Callable Tryz.prog 83 := ⟨_, Tryz.func83, by kernel_rfl, rfl⟩
theorem spec_l03Has.ok (k : Nat) (a0 : List Int) (a1 : Int) (r : Bool) (h : spec_l03Has.f k a0 a1 = some r) : VCalls Tryz.prog 83 [.c (R 1 (eI .i64) 0 a0), .c (.sc (.int .i64 a1))] [.c (.p (.sc (.bool r)))] := by
  unfold spec_l03Has.f at h
  refine VCalls.of (fn := Tryz.f83) (N := 18) Tryz.func83 rfl rfl (fun w0 => ?_)
  have H0 : ∀ (kq : Nat) (v91 : Int), spec_l03Has.l0 kq a0 a1 v91 = some r → AG Tryz.prog 83 18 [.c (.p (.sc (.bool r)))] w0 (headStk (codeOf Tryz.f83) 0) (mkFS (spec_l03Has.h0T a0 a1 v91) (spec_l03Has.h0H a0 a1 v91)) := by
    intro kq
    induction kq with
    | zero => intro v91 h; cases h
    | succ kq ih =>
      intro v91 h
      rw [spec_l03Has.l0] at h
      by_cases c217 : v91 < (a0.length : Int)
      · replace h := (if_pos c217).symm.trans h
        obtain ⟨c218, h⟩ := ifN h
        by_cases c219 : (rdD 0 a0 v91) = a1
        · replace h := (if_pos c219).symm.trans h
          cases h
          exact byRet MX Tryz.func83 1000 [.b true, .b true, .fin] (o1 (decide_eq_true c217) (o1 c218 (o1 c217 (o1 (decide_eq_true c219) on)))) (by kernel_rfl)
        · replace h := (if_neg c219).symm.trans h
          exact byHead MX Tryz.func83 1000 [.b true, .b false, .fin] (o1 (decide_eq_true c217) (o1 c218 (o1 c217 (o1 (decide_eq_false c219) on)))) (ih (w64 (v91 + 1)) h) (by kernel_rfl)
      · replace h := (if_neg c217).symm.trans h
        cases h
        exact byRet MX Tryz.func83 1000 [.b false, .fin, .fin] (o1 (decide_eq_false c217) on) (by kernel_rfl)
  exact byHead MX Tryz.func83 1000 [.fin] on (H0 k 0 h) (by kernel_rfl)

/-! ### spec_Beside: function 147 -/
def spec_Beside.f (k : Nat) (a0 : S38) (a1 : Int) (a2 : Int) : Option Bool := (spec_Around.f k a0 a1).bind fun t90 => (spec_l03Has.f k t90 a2).bind fun t92 => some t92
theorem spec_Beside.go : Callable Tryz.prog 147 := ⟨_, Tryz.func147, by kernel_rfl, rfl⟩
theorem spec_Beside.ok (k : Nat) (a0 : S38) (a1 : Int) (a2 : Int) (r : Bool) (h : spec_Beside.f k a0 a1 a2 = some r) : VCalls Tryz.prog 147 [.agg (e38 a0), .c (.sc (.int .i64 a1)), .c (.sc (.int .i64 a2))] [.c (.p (.sc (.bool r)))] := by
  unfold spec_Beside.f at h
  refine VCalls.of (fn := Tryz.f147) (N := 12) Tryz.func147 rfl rfl (fun w0 => ?_)
  obtain ⟨t90, g214, h⟩ := bindN h
  let C214 := mkCon (spec_Around.ok k a0 a1 t90 g214) spec_Around.go
  obtain ⟨t92, g220, h⟩ := bindN h
  let C220 := mkCon (spec_l03Has.ok k t90 a2 t92 g220) spec_l03Has.go
  cases h
  exact byRet MX Tryz.func147 1000 [.call C214, .call C220, .fin] (oa (sc_ C214) (oa (sc_ C220) on)) (by kernel_rfl)

/-! ### spec_RobotsOk: function 77 -/
def spec_RobotsOk.h0T (a1 : List S69) (v69 : Int) (a0 : S38) : List (Nat × AV) := [(1, .t (.c (.p false (R 4 e69 z69 a1)))), (2, .ptr 128 0), (5, .t (.c (.p true (.sc (.int .i64 v69)))))]
def spec_RobotsOk.h0H (a1 : List S69) (v69 : Int) (a0 : S38) : List (Nat × Content) := [(128, .box 38 [.p false (.sc (.int .i64 a0.f0)), .p false (.sc (.int .i64 a0.f1)), .p false (.sc (.string a0.f2))])]
def spec_RobotsOk.l0 : Nat → List S69 → S38 → Int → Option Bool
  | 0, _, _, _ => none
  | kq + 1, a1, a0, v69 => if v69 < (a1.length : Int) then (if 0 ≤ v69 then ((spec_l01In.f ((rdD z69 a1 v69).f0) 0 99).bind fun t70 => if t70 = true then (if 0 < v69 then (if 0 ≤ (w64 (v69 - 1)) then (if (w64 (v69 - 1)) < (a1.length : Int) then (if (rdD z69 a1 v69).f0 ≤ (rdD z69 a1 (w64 (v69 - 1))).f0 then (some false) else ((spec_FreeAt.f kq a0 ((rdD z69 a1 v69).f1)).bind fun t71 => if t71 = true then (if (rdD z69 a1 v69).f2 = (-1) then (if v69 ≤ (a1.length : Int) then ((spec_HolderOf.f kq ((a1.drop (0 : Int).toNat).take (v69.toNat - (0 : Int).toNat)) ((rdD z69 a1 v69).f1)).bind fun t72 => if 0 ≤ t72 then (some false) else ((spec_HolderOf.f kq ((a1.drop (0 : Int).toNat).take (v69.toNat - (0 : Int).toNat)) ((rdD z69 a1 v69).f2)).bind fun t73 => if 0 ≤ t73 then (some false) else (spec_RobotsOk.l0 kq a1 a0 (w64 (v69 + 1))))) else none) else ((spec_Beside.f kq a0 ((rdD z69 a1 v69).f1) ((rdD z69 a1 v69).f2)).bind fun t93 => if t93 = true then (if v69 ≤ (a1.length : Int) then ((spec_HolderOf.f kq ((a1.drop (0 : Int).toNat).take (v69.toNat - (0 : Int).toNat)) ((rdD z69 a1 v69).f1)).bind fun t94 => if 0 ≤ t94 then (some false) else ((spec_HolderOf.f kq ((a1.drop (0 : Int).toNat).take (v69.toNat - (0 : Int).toNat)) ((rdD z69 a1 v69).f2)).bind fun t95 => if 0 ≤ t95 then (some false) else (spec_RobotsOk.l0 kq a1 a0 (w64 (v69 + 1))))) else none) else (some false))) else (some false))) else none) else none) else ((spec_FreeAt.f kq a0 ((rdD z69 a1 v69).f1)).bind fun t96 => if t96 = true then (if (rdD z69 a1 v69).f2 = (-1) then (if v69 ≤ (a1.length : Int) then ((spec_HolderOf.f kq ((a1.drop (0 : Int).toNat).take (v69.toNat - (0 : Int).toNat)) ((rdD z69 a1 v69).f1)).bind fun t97 => if 0 ≤ t97 then (some false) else ((spec_HolderOf.f kq ((a1.drop (0 : Int).toNat).take (v69.toNat - (0 : Int).toNat)) ((rdD z69 a1 v69).f2)).bind fun t98 => if 0 ≤ t98 then (some false) else (spec_RobotsOk.l0 kq a1 a0 (w64 (v69 + 1))))) else none) else ((spec_Beside.f kq a0 ((rdD z69 a1 v69).f1) ((rdD z69 a1 v69).f2)).bind fun t99 => if t99 = true then (if v69 ≤ (a1.length : Int) then ((spec_HolderOf.f kq ((a1.drop (0 : Int).toNat).take (v69.toNat - (0 : Int).toNat)) ((rdD z69 a1 v69).f1)).bind fun t100 => if 0 ≤ t100 then (some false) else ((spec_HolderOf.f kq ((a1.drop (0 : Int).toNat).take (v69.toNat - (0 : Int).toNat)) ((rdD z69 a1 v69).f2)).bind fun t101 => if 0 ≤ t101 then (some false) else (spec_RobotsOk.l0 kq a1 a0 (w64 (v69 + 1))))) else none) else (some false))) else (some false))) else (some false)) else none) else (some true)
def spec_RobotsOk.f (k : Nat) (a0 : S38) (a1 : List S69) : Option Bool := (spec_GridOk.f k a0).bind fun t62 => if t62 = true then (if 10 < (a1.length : Int) then (some false) else (spec_RobotsOk.l0 k a1 a0 0)) else (some false)
theorem spec_RobotsOk.go : Callable Tryz.prog 77 := ⟨_, Tryz.func77, by kernel_rfl, rfl⟩
theorem spec_RobotsOk.ok (k : Nat) (a0 : S38) (a1 : List S69) (r : Bool) (h : spec_RobotsOk.f k a0 a1 = some r) : VCalls Tryz.prog 77 [.agg (e38 a0), .c (R 4 e69 z69 a1)] [.c (.p (.sc (.bool r)))] := by
  unfold spec_RobotsOk.f at h
  refine VCalls.of (fn := Tryz.f77) (N := 81) Tryz.func77 rfl rfl (fun w0 => ?_)
  obtain ⟨t62, g132, h⟩ := bindN h
  let C132 := mkCon (spec_GridOk.ok k a0 t62 g132) spec_GridOk.go
  by_cases c133 : t62 = true
  · replace h := (if_pos c133).symm.trans h
    by_cases c134 : 10 < (a1.length : Int)
    · replace h := (if_pos c134).symm.trans h
      cases h
      exact byRet MX Tryz.func77 1000 [.call C132, .dec 10 false, .b true, .fin] (oa (sc_ C132) (o1 (bnf c133) (o1 (decide_eq_true c134) on))) (by kernel_rfl)
    · replace h := (if_neg c134).symm.trans h
      have H0 : ∀ (kq : Nat) (v69 : Int), spec_RobotsOk.l0 kq a1 a0 v69 = some r → AG Tryz.prog 77 81 [.c (.p (.sc (.bool r)))] w0 (headStk (codeOf Tryz.f77) 0) (mkFS (spec_RobotsOk.h0T a1 v69 a0) (spec_RobotsOk.h0H a1 v69 a0)) := by
        intro kq
        induction kq with
        | zero => intro v69 h; cases h
        | succ kq ih =>
          intro v69 h
          rw [spec_RobotsOk.l0] at h
          by_cases c163 : v69 < (a1.length : Int)
          · replace h := (if_pos c163).symm.trans h
            obtain ⟨c164, h⟩ := ifN h
            obtain ⟨t70, g165, h⟩ := bindN h
            let C165 := mkCon (spec_l01In.ok ((rdD z69 a1 v69).f0) 0 99 t70 g165) spec_l01In.go
            by_cases c166 : t70 = true
            · replace h := (if_pos c166).symm.trans h
              by_cases c167 : 0 < v69
              · replace h := (if_pos c167).symm.trans h
                obtain ⟨c168, h⟩ := ifN h
                obtain ⟨c169, h⟩ := ifN h
                by_cases c170 : (rdD z69 a1 v69).f0 ≤ (rdD z69 a1 (w64 (v69 - 1))).f0
                · replace h := (if_pos c170).symm.trans h
                  cases h
                  exact byRet MX Tryz.func77 1000 [.b true, .call C165, .dec 29 false, .dec 32 true, .dec 44 true, .b true, .fin] (o1 (decide_eq_true c163) (o1 c164 (o1 c163 (oa (sc_ C165) (o1 (bnf c166) (o1 (decide_eq_true c167) (o1 c168 (o1 c169 (o1 (decide_eq_true c170) (o1 (rfl : true = true) on)))))))))) (by kernel_rfl)
                · replace h := (if_neg c170).symm.trans h
                  obtain ⟨t71, g171, h⟩ := bindN h
                  let C171 := mkCon (spec_FreeAt.ok kq a0 ((rdD z69 a1 v69).f1) t71 g171) spec_FreeAt.go
                  by_cases c172 : t71 = true
                  · replace h := (if_pos c172).symm.trans h
                    by_cases c173 : (rdD z69 a1 v69).f2 = (-1)
                    · replace h := (if_pos c173).symm.trans h
                      obtain ⟨c174, h⟩ := ifN h
                      obtain ⟨t72, g175, h⟩ := bindN h
                      let C175 := mkCon (spec_HolderOf.ok kq ((a1.drop (0 : Int).toNat).take (v69.toNat - (0 : Int).toNat)) ((rdD z69 a1 v69).f1) t72 g175) spec_HolderOf.go
                      by_cases c176 : 0 ≤ t72
                      · replace h := (if_pos c176).symm.trans h
                        cases h
                        exact byRet MX Tryz.func77 1000 [.b true, .call C165, .dec 29 false, .dec 32 true, .dec 44 false, .call C171, .dec 51 false, .dec 55 false, .b false, .cst 67 (R 4 e69 z69 ((a1.drop (0 : Int).toNat).take (v69.toNat - (0 : Int).toNat))), .call C175, .dec 72 true, .b true, .fin] (o1 (decide_eq_true c163) (o1 c164 (o1 c163 (oa (sc_ C165) (o1 (bnf c166) (o1 (decide_eq_true c167) (o1 c168 (o1 c169 (o1 (decide_eq_false c170) (oa (sc_ C171) (o1 (bnf c172) (o1 (bnf (decide_eq_true c173)) (o1 (rfl : false = false) (o1 (by decide : (0 : Int) ≤ 0) (o1 c164 (o1 c174 (o1 (VE.cut (z := 4) (e := e69) (d := z69) a1 (n := a1.length) (lo := 0) (hi := v69) rfl (by decide : (0 : Int) ≤ 0) c164 c174) (oa (sc_ C175) (o1 (decide_eq_true c176) (o1 (rfl : true = true) on)))))))))))))))))))) (by kernel_rfl)
                      · replace h := (if_neg c176).symm.trans h
                        obtain ⟨t73, g177, h⟩ := bindN h
                        let C177 := mkCon (spec_HolderOf.ok kq ((a1.drop (0 : Int).toNat).take (v69.toNat - (0 : Int).toNat)) ((rdD z69 a1 v69).f2) t73 g177) spec_HolderOf.go
                        by_cases c178 : 0 ≤ t73
                        · replace h := (if_pos c178).symm.trans h
                          cases h
                          exact byRet MX Tryz.func77 1000 [.b true, .call C165, .dec 29 false, .dec 32 true, .dec 44 false, .call C171, .dec 51 false, .dec 55 false, .b false, .cst 67 (R 4 e69 z69 ((a1.drop (0 : Int).toNat).take (v69.toNat - (0 : Int).toNat))), .call C175, .dec 72 false, .cst 75 (R 4 e69 z69 ((a1.drop (0 : Int).toNat).take (v69.toNat - (0 : Int).toNat))), .call C177, .b true, .fin] (o1 (decide_eq_true c163) (o1 c164 (o1 c163 (oa (sc_ C165) (o1 (bnf c166) (o1 (decide_eq_true c167) (o1 c168 (o1 c169 (o1 (decide_eq_false c170) (oa (sc_ C171) (o1 (bnf c172) (o1 (bnf (decide_eq_true c173)) (o1 (rfl : false = false) (o1 (by decide : (0 : Int) ≤ 0) (o1 c164 (o1 c174 (o1 (VE.cut (z := 4) (e := e69) (d := z69) a1 (n := a1.length) (lo := 0) (hi := v69) rfl (by decide : (0 : Int) ≤ 0) c164 c174) (oa (sc_ C175) (o1 (decide_eq_false c176) (o1 (by decide : (0 : Int) ≤ 0) (o1 c164 (o1 c174 (o1 (VE.cut (z := 4) (e := e69) (d := z69) a1 (n := a1.length) (lo := 0) (hi := v69) rfl (by decide : (0 : Int) ≤ 0) c164 c174) (oa (sc_ C177) (o1 (decide_eq_true c178) on))))))))))))))))))))))))) (by kernel_rfl)
                        · replace h := (if_neg c178).symm.trans h
                          exact byHead MX Tryz.func77 1000 [.b true, .call C165, .dec 29 false, .dec 32 true, .dec 44 false, .call C171, .dec 51 false, .dec 55 false, .b false, .cst 67 (R 4 e69 z69 ((a1.drop (0 : Int).toNat).take (v69.toNat - (0 : Int).toNat))), .call C175, .dec 72 false, .cst 75 (R 4 e69 z69 ((a1.drop (0 : Int).toNat).take (v69.toNat - (0 : Int).toNat))), .call C177, .b false, .fin] (o1 (decide_eq_true c163) (o1 c164 (o1 c163 (oa (sc_ C165) (o1 (bnf c166) (o1 (decide_eq_true c167) (o1 c168 (o1 c169 (o1 (decide_eq_false c170) (oa (sc_ C171) (o1 (bnf c172) (o1 (bnf (decide_eq_true c173)) (o1 (rfl : false = false) (o1 (by decide : (0 : Int) ≤ 0) (o1 c164 (o1 c174 (o1 (VE.cut (z := 4) (e := e69) (d := z69) a1 (n := a1.length) (lo := 0) (hi := v69) rfl (by decide : (0 : Int) ≤ 0) c164 c174) (oa (sc_ C175) (o1 (decide_eq_false c176) (o1 (by decide : (0 : Int) ≤ 0) (o1 c164 (o1 c174 (o1 (VE.cut (z := 4) (e := e69) (d := z69) a1 (n := a1.length) (lo := 0) (hi := v69) rfl (by decide : (0 : Int) ≤ 0) c164 c174) (oa (sc_ C177) (o1 (decide_eq_false c178) on))))))))))))))))))))))))) (ih (w64 (v69 + 1)) h) (by kernel_rfl)
                    · replace h := (if_neg c173).symm.trans h
                      obtain ⟨t93, g221, h⟩ := bindN h
                      let C221 := mkCon (spec_Beside.ok kq a0 ((rdD z69 a1 v69).f1) ((rdD z69 a1 v69).f2) t93 g221) spec_Beside.go
                      by_cases c222 : t93 = true
                      · replace h := (if_pos c222).symm.trans h
                        obtain ⟨c223, h⟩ := ifN h
                        obtain ⟨t94, g224, h⟩ := bindN h
                        let C224 := mkCon (spec_HolderOf.ok kq ((a1.drop (0 : Int).toNat).take (v69.toNat - (0 : Int).toNat)) ((rdD z69 a1 v69).f1) t94 g224) spec_HolderOf.go
                        by_cases c225 : 0 ≤ t94
                        · replace h := (if_pos c225).symm.trans h
                          cases h
                          exact byRet MX Tryz.func77 1000 [.b true, .call C165, .dec 29 false, .dec 32 true, .dec 44 false, .call C171, .dec 51 false, .dec 55 true, .call C221, .b false, .cst 67 (R 4 e69 z69 ((a1.drop (0 : Int).toNat).take (v69.toNat - (0 : Int).toNat))), .call C224, .dec 72 true, .b true, .fin] (o1 (decide_eq_true c163) (o1 c164 (o1 c163 (oa (sc_ C165) (o1 (bnf c166) (o1 (decide_eq_true c167) (o1 c168 (o1 c169 (o1 (decide_eq_false c170) (oa (sc_ C171) (o1 (bnf c172) (o1 (bnt (decide_eq_false c173)) (oa (sc_ C221) (o1 (bnf c222) (o1 (by decide : (0 : Int) ≤ 0) (o1 c164 (o1 c223 (o1 (VE.cut (z := 4) (e := e69) (d := z69) a1 (n := a1.length) (lo := 0) (hi := v69) rfl (by decide : (0 : Int) ≤ 0) c164 c223) (oa (sc_ C224) (o1 (decide_eq_true c225) (o1 (rfl : true = true) on))))))))))))))))))))) (by kernel_rfl)
                        · replace h := (if_neg c225).symm.trans h
                          obtain ⟨t95, g226, h⟩ := bindN h
                          let C226 := mkCon (spec_HolderOf.ok kq ((a1.drop (0 : Int).toNat).take (v69.toNat - (0 : Int).toNat)) ((rdD z69 a1 v69).f2) t95 g226) spec_HolderOf.go
                          by_cases c227 : 0 ≤ t95
                          · replace h := (if_pos c227).symm.trans h
                            cases h
                            exact byRet MX Tryz.func77 1000 [.b true, .call C165, .dec 29 false, .dec 32 true, .dec 44 false, .call C171, .dec 51 false, .dec 55 true, .call C221, .b false, .cst 67 (R 4 e69 z69 ((a1.drop (0 : Int).toNat).take (v69.toNat - (0 : Int).toNat))), .call C224, .dec 72 false, .cst 75 (R 4 e69 z69 ((a1.drop (0 : Int).toNat).take (v69.toNat - (0 : Int).toNat))), .call C226, .b true, .fin] (o1 (decide_eq_true c163) (o1 c164 (o1 c163 (oa (sc_ C165) (o1 (bnf c166) (o1 (decide_eq_true c167) (o1 c168 (o1 c169 (o1 (decide_eq_false c170) (oa (sc_ C171) (o1 (bnf c172) (o1 (bnt (decide_eq_false c173)) (oa (sc_ C221) (o1 (bnf c222) (o1 (by decide : (0 : Int) ≤ 0) (o1 c164 (o1 c223 (o1 (VE.cut (z := 4) (e := e69) (d := z69) a1 (n := a1.length) (lo := 0) (hi := v69) rfl (by decide : (0 : Int) ≤ 0) c164 c223) (oa (sc_ C224) (o1 (decide_eq_false c225) (o1 (by decide : (0 : Int) ≤ 0) (o1 c164 (o1 c223 (o1 (VE.cut (z := 4) (e := e69) (d := z69) a1 (n := a1.length) (lo := 0) (hi := v69) rfl (by decide : (0 : Int) ≤ 0) c164 c223) (oa (sc_ C226) (o1 (decide_eq_true c227) on)))))))))))))))))))))))))) (by kernel_rfl)
                          · replace h := (if_neg c227).symm.trans h
                            exact byHead MX Tryz.func77 1000 [.b true, .call C165, .dec 29 false, .dec 32 true, .dec 44 false, .call C171, .dec 51 false, .dec 55 true, .call C221, .b false, .cst 67 (R 4 e69 z69 ((a1.drop (0 : Int).toNat).take (v69.toNat - (0 : Int).toNat))), .call C224, .dec 72 false, .cst 75 (R 4 e69 z69 ((a1.drop (0 : Int).toNat).take (v69.toNat - (0 : Int).toNat))), .call C226, .b false, .fin] (o1 (decide_eq_true c163) (o1 c164 (o1 c163 (oa (sc_ C165) (o1 (bnf c166) (o1 (decide_eq_true c167) (o1 c168 (o1 c169 (o1 (decide_eq_false c170) (oa (sc_ C171) (o1 (bnf c172) (o1 (bnt (decide_eq_false c173)) (oa (sc_ C221) (o1 (bnf c222) (o1 (by decide : (0 : Int) ≤ 0) (o1 c164 (o1 c223 (o1 (VE.cut (z := 4) (e := e69) (d := z69) a1 (n := a1.length) (lo := 0) (hi := v69) rfl (by decide : (0 : Int) ≤ 0) c164 c223) (oa (sc_ C224) (o1 (decide_eq_false c225) (o1 (by decide : (0 : Int) ≤ 0) (o1 c164 (o1 c223 (o1 (VE.cut (z := 4) (e := e69) (d := z69) a1 (n := a1.length) (lo := 0) (hi := v69) rfl (by decide : (0 : Int) ≤ 0) c164 c223) (oa (sc_ C226) (o1 (decide_eq_false c227) on)))))))))))))))))))))))))) (ih (w64 (v69 + 1)) h) (by kernel_rfl)
                      · replace h := (if_neg c222).symm.trans h
                        cases h
                        exact byRet MX Tryz.func77 1000 [.b true, .call C165, .dec 29 false, .dec 32 true, .dec 44 false, .call C171, .dec 51 false, .dec 55 true, .call C221, .b true, .fin] (o1 (decide_eq_true c163) (o1 c164 (o1 c163 (oa (sc_ C165) (o1 (bnf c166) (o1 (decide_eq_true c167) (o1 c168 (o1 c169 (o1 (decide_eq_false c170) (oa (sc_ C171) (o1 (bnf c172) (o1 (bnt (decide_eq_false c173)) (oa (sc_ C221) (o1 (bnt (eqf c222)) on)))))))))))))) (by kernel_rfl)
                  · replace h := (if_neg c172).symm.trans h
                    cases h
                    exact byRet MX Tryz.func77 1000 [.b true, .call C165, .dec 29 false, .dec 32 true, .dec 44 false, .call C171, .dec 51 true, .b true, .fin] (o1 (decide_eq_true c163) (o1 c164 (o1 c163 (oa (sc_ C165) (o1 (bnf c166) (o1 (decide_eq_true c167) (o1 c168 (o1 c169 (o1 (decide_eq_false c170) (oa (sc_ C171) (o1 (bnt (eqf c172)) (o1 (rfl : true = true) on)))))))))))) (by kernel_rfl)
              · replace h := (if_neg c167).symm.trans h
                obtain ⟨t96, g228, h⟩ := bindN h
                let C228 := mkCon (spec_FreeAt.ok kq a0 ((rdD z69 a1 v69).f1) t96 g228) spec_FreeAt.go
                by_cases c229 : t96 = true
                · replace h := (if_pos c229).symm.trans h
                  by_cases c230 : (rdD z69 a1 v69).f2 = (-1)
                  · replace h := (if_pos c230).symm.trans h
                    obtain ⟨c231, h⟩ := ifN h
                    obtain ⟨t97, g232, h⟩ := bindN h
                    let C232 := mkCon (spec_HolderOf.ok kq ((a1.drop (0 : Int).toNat).take (v69.toNat - (0 : Int).toNat)) ((rdD z69 a1 v69).f1) t97 g232) spec_HolderOf.go
                    by_cases c233 : 0 ≤ t97
                    · replace h := (if_pos c233).symm.trans h
                      cases h
                      exact byRet MX Tryz.func77 1000 [.b true, .call C165, .dec 29 false, .dec 32 false, .call C228, .dec 51 false, .dec 55 false, .b false, .cst 67 (R 4 e69 z69 ((a1.drop (0 : Int).toNat).take (v69.toNat - (0 : Int).toNat))), .call C232, .dec 72 true, .b true, .fin] (o1 (decide_eq_true c163) (o1 c164 (o1 c163 (oa (sc_ C165) (o1 (bnf c166) (o1 (decide_eq_false c167) (oa (sc_ C228) (o1 (bnf c229) (o1 (bnf (decide_eq_true c230)) (o1 (rfl : false = false) (o1 (by decide : (0 : Int) ≤ 0) (o1 c164 (o1 c231 (o1 (VE.cut (z := 4) (e := e69) (d := z69) a1 (n := a1.length) (lo := 0) (hi := v69) rfl (by decide : (0 : Int) ≤ 0) c164 c231) (oa (sc_ C232) (o1 (decide_eq_true c233) (o1 (rfl : true = true) on))))))))))))))))) (by kernel_rfl)
                    · replace h := (if_neg c233).symm.trans h
                      obtain ⟨t98, g234, h⟩ := bindN h
                      let C234 := mkCon (spec_HolderOf.ok kq ((a1.drop (0 : Int).toNat).take (v69.toNat - (0 : Int).toNat)) ((rdD z69 a1 v69).f2) t98 g234) spec_HolderOf.go
                      by_cases c235 : 0 ≤ t98
                      · replace h := (if_pos c235).symm.trans h
                        cases h
                        exact byRet MX Tryz.func77 1000 [.b true, .call C165, .dec 29 false, .dec 32 false, .call C228, .dec 51 false, .dec 55 false, .b false, .cst 67 (R 4 e69 z69 ((a1.drop (0 : Int).toNat).take (v69.toNat - (0 : Int).toNat))), .call C232, .dec 72 false, .cst 75 (R 4 e69 z69 ((a1.drop (0 : Int).toNat).take (v69.toNat - (0 : Int).toNat))), .call C234, .b true, .fin] (o1 (decide_eq_true c163) (o1 c164 (o1 c163 (oa (sc_ C165) (o1 (bnf c166) (o1 (decide_eq_false c167) (oa (sc_ C228) (o1 (bnf c229) (o1 (bnf (decide_eq_true c230)) (o1 (rfl : false = false) (o1 (by decide : (0 : Int) ≤ 0) (o1 c164 (o1 c231 (o1 (VE.cut (z := 4) (e := e69) (d := z69) a1 (n := a1.length) (lo := 0) (hi := v69) rfl (by decide : (0 : Int) ≤ 0) c164 c231) (oa (sc_ C232) (o1 (decide_eq_false c233) (o1 (by decide : (0 : Int) ≤ 0) (o1 c164 (o1 c231 (o1 (VE.cut (z := 4) (e := e69) (d := z69) a1 (n := a1.length) (lo := 0) (hi := v69) rfl (by decide : (0 : Int) ≤ 0) c164 c231) (oa (sc_ C234) (o1 (decide_eq_true c235) on)))))))))))))))))))))) (by kernel_rfl)
                      · replace h := (if_neg c235).symm.trans h
                        exact byHead MX Tryz.func77 1000 [.b true, .call C165, .dec 29 false, .dec 32 false, .call C228, .dec 51 false, .dec 55 false, .b false, .cst 67 (R 4 e69 z69 ((a1.drop (0 : Int).toNat).take (v69.toNat - (0 : Int).toNat))), .call C232, .dec 72 false, .cst 75 (R 4 e69 z69 ((a1.drop (0 : Int).toNat).take (v69.toNat - (0 : Int).toNat))), .call C234, .b false, .fin] (o1 (decide_eq_true c163) (o1 c164 (o1 c163 (oa (sc_ C165) (o1 (bnf c166) (o1 (decide_eq_false c167) (oa (sc_ C228) (o1 (bnf c229) (o1 (bnf (decide_eq_true c230)) (o1 (rfl : false = false) (o1 (by decide : (0 : Int) ≤ 0) (o1 c164 (o1 c231 (o1 (VE.cut (z := 4) (e := e69) (d := z69) a1 (n := a1.length) (lo := 0) (hi := v69) rfl (by decide : (0 : Int) ≤ 0) c164 c231) (oa (sc_ C232) (o1 (decide_eq_false c233) (o1 (by decide : (0 : Int) ≤ 0) (o1 c164 (o1 c231 (o1 (VE.cut (z := 4) (e := e69) (d := z69) a1 (n := a1.length) (lo := 0) (hi := v69) rfl (by decide : (0 : Int) ≤ 0) c164 c231) (oa (sc_ C234) (o1 (decide_eq_false c235) on)))))))))))))))))))))) (ih (w64 (v69 + 1)) h) (by kernel_rfl)
                  · replace h := (if_neg c230).symm.trans h
                    obtain ⟨t99, g236, h⟩ := bindN h
                    let C236 := mkCon (spec_Beside.ok kq a0 ((rdD z69 a1 v69).f1) ((rdD z69 a1 v69).f2) t99 g236) spec_Beside.go
                    by_cases c237 : t99 = true
                    · replace h := (if_pos c237).symm.trans h
                      obtain ⟨c238, h⟩ := ifN h
                      obtain ⟨t100, g239, h⟩ := bindN h
                      let C239 := mkCon (spec_HolderOf.ok kq ((a1.drop (0 : Int).toNat).take (v69.toNat - (0 : Int).toNat)) ((rdD z69 a1 v69).f1) t100 g239) spec_HolderOf.go
                      by_cases c240 : 0 ≤ t100
                      · replace h := (if_pos c240).symm.trans h
                        cases h
                        exact byRet MX Tryz.func77 1000 [.b true, .call C165, .dec 29 false, .dec 32 false, .call C228, .dec 51 false, .dec 55 true, .call C236, .b false, .cst 67 (R 4 e69 z69 ((a1.drop (0 : Int).toNat).take (v69.toNat - (0 : Int).toNat))), .call C239, .dec 72 true, .b true, .fin] (o1 (decide_eq_true c163) (o1 c164 (o1 c163 (oa (sc_ C165) (o1 (bnf c166) (o1 (decide_eq_false c167) (oa (sc_ C228) (o1 (bnf c229) (o1 (bnt (decide_eq_false c230)) (oa (sc_ C236) (o1 (bnf c237) (o1 (by decide : (0 : Int) ≤ 0) (o1 c164 (o1 c238 (o1 (VE.cut (z := 4) (e := e69) (d := z69) a1 (n := a1.length) (lo := 0) (hi := v69) rfl (by decide : (0 : Int) ≤ 0) c164 c238) (oa (sc_ C239) (o1 (decide_eq_true c240) (o1 (rfl : true = true) on)))))))))))))))))) (by kernel_rfl)
                      · replace h := (if_neg c240).symm.trans h
                        obtain ⟨t101, g241, h⟩ := bindN h
                        let C241 := mkCon (spec_HolderOf.ok kq ((a1.drop (0 : Int).toNat).take (v69.toNat - (0 : Int).toNat)) ((rdD z69 a1 v69).f2) t101 g241) spec_HolderOf.go
                        by_cases c242 : 0 ≤ t101
                        · replace h := (if_pos c242).symm.trans h
                          cases h
                          exact byRet MX Tryz.func77 1000 [.b true, .call C165, .dec 29 false, .dec 32 false, .call C228, .dec 51 false, .dec 55 true, .call C236, .b false, .cst 67 (R 4 e69 z69 ((a1.drop (0 : Int).toNat).take (v69.toNat - (0 : Int).toNat))), .call C239, .dec 72 false, .cst 75 (R 4 e69 z69 ((a1.drop (0 : Int).toNat).take (v69.toNat - (0 : Int).toNat))), .call C241, .b true, .fin] (o1 (decide_eq_true c163) (o1 c164 (o1 c163 (oa (sc_ C165) (o1 (bnf c166) (o1 (decide_eq_false c167) (oa (sc_ C228) (o1 (bnf c229) (o1 (bnt (decide_eq_false c230)) (oa (sc_ C236) (o1 (bnf c237) (o1 (by decide : (0 : Int) ≤ 0) (o1 c164 (o1 c238 (o1 (VE.cut (z := 4) (e := e69) (d := z69) a1 (n := a1.length) (lo := 0) (hi := v69) rfl (by decide : (0 : Int) ≤ 0) c164 c238) (oa (sc_ C239) (o1 (decide_eq_false c240) (o1 (by decide : (0 : Int) ≤ 0) (o1 c164 (o1 c238 (o1 (VE.cut (z := 4) (e := e69) (d := z69) a1 (n := a1.length) (lo := 0) (hi := v69) rfl (by decide : (0 : Int) ≤ 0) c164 c238) (oa (sc_ C241) (o1 (decide_eq_true c242) on))))))))))))))))))))))) (by kernel_rfl)
                        · replace h := (if_neg c242).symm.trans h
                          exact byHead MX Tryz.func77 1000 [.b true, .call C165, .dec 29 false, .dec 32 false, .call C228, .dec 51 false, .dec 55 true, .call C236, .b false, .cst 67 (R 4 e69 z69 ((a1.drop (0 : Int).toNat).take (v69.toNat - (0 : Int).toNat))), .call C239, .dec 72 false, .cst 75 (R 4 e69 z69 ((a1.drop (0 : Int).toNat).take (v69.toNat - (0 : Int).toNat))), .call C241, .b false, .fin] (o1 (decide_eq_true c163) (o1 c164 (o1 c163 (oa (sc_ C165) (o1 (bnf c166) (o1 (decide_eq_false c167) (oa (sc_ C228) (o1 (bnf c229) (o1 (bnt (decide_eq_false c230)) (oa (sc_ C236) (o1 (bnf c237) (o1 (by decide : (0 : Int) ≤ 0) (o1 c164 (o1 c238 (o1 (VE.cut (z := 4) (e := e69) (d := z69) a1 (n := a1.length) (lo := 0) (hi := v69) rfl (by decide : (0 : Int) ≤ 0) c164 c238) (oa (sc_ C239) (o1 (decide_eq_false c240) (o1 (by decide : (0 : Int) ≤ 0) (o1 c164 (o1 c238 (o1 (VE.cut (z := 4) (e := e69) (d := z69) a1 (n := a1.length) (lo := 0) (hi := v69) rfl (by decide : (0 : Int) ≤ 0) c164 c238) (oa (sc_ C241) (o1 (decide_eq_false c242) on))))))))))))))))))))))) (ih (w64 (v69 + 1)) h) (by kernel_rfl)
                    · replace h := (if_neg c237).symm.trans h
                      cases h
                      exact byRet MX Tryz.func77 1000 [.b true, .call C165, .dec 29 false, .dec 32 false, .call C228, .dec 51 false, .dec 55 true, .call C236, .b true, .fin] (o1 (decide_eq_true c163) (o1 c164 (o1 c163 (oa (sc_ C165) (o1 (bnf c166) (o1 (decide_eq_false c167) (oa (sc_ C228) (o1 (bnf c229) (o1 (bnt (decide_eq_false c230)) (oa (sc_ C236) (o1 (bnt (eqf c237)) on))))))))))) (by kernel_rfl)
                · replace h := (if_neg c229).symm.trans h
                  cases h
                  exact byRet MX Tryz.func77 1000 [.b true, .call C165, .dec 29 false, .dec 32 false, .call C228, .dec 51 true, .b true, .fin] (o1 (decide_eq_true c163) (o1 c164 (o1 c163 (oa (sc_ C165) (o1 (bnf c166) (o1 (decide_eq_false c167) (oa (sc_ C228) (o1 (bnt (eqf c229)) (o1 (rfl : true = true) on))))))))) (by kernel_rfl)
            · replace h := (if_neg c166).symm.trans h
              cases h
              exact byRet MX Tryz.func77 1000 [.b true, .call C165, .dec 29 true, .b true, .fin] (o1 (decide_eq_true c163) (o1 c164 (o1 c163 (oa (sc_ C165) (o1 (bnt (eqf c166)) (o1 (rfl : true = true) on)))))) (by kernel_rfl)
          · replace h := (if_neg c163).symm.trans h
            cases h
            exact byRet MX Tryz.func77 1000 [.b false, .fin, .fin] (o1 (decide_eq_false c163) on) (by kernel_rfl)
      exact byHead MX Tryz.func77 1000 [.call C132, .dec 10 false, .b false, .fin] (oa (sc_ C132) (o1 (bnf c133) (o1 (decide_eq_false c134) on))) (H0 k 0 h) (by kernel_rfl)
  · replace h := (if_neg c133).symm.trans h
    cases h
    exact byRet MX Tryz.func77 1000 [.call C132, .dec 10 true, .b true, .fin] (oa (sc_ C132) (o1 (bnt (eqf c133)) (o1 (rfl : true = true) on))) (by kernel_rfl)

/-! ### spec_WindowOk: function 78 -/
def spec_WindowOk.h0T (v106 : Int) (a0 : S42) : List (Nat × AV) := [(1, .ptr 64 0), (3, .t (.c (.p true (.sc (.int .i64 v106)))))]
def spec_WindowOk.h0H (v106 : Int) (a0 : S42) : List (Nat × Content) := [(64, .box 42 [.p false (.sc (.int .i64 a0.f0)), .p false (.sc (.int .i64 a0.f1)), .p false (R 1 (eI .i64) 0 a0.f2)])]
def spec_WindowOk.l0 : Nat → S42 → Int → Option Bool
  | 0, _, _ => none
  | kq + 1, a0, v106 => if v106 < (a0.f2.length : Int) then (if 0 ≤ v106 then ((spec_l01In.f (rdD 0 a0.f2 v106) 0 a0.f1).bind fun t107 => if t107 = true then (spec_WindowOk.l0 kq a0 (w64 (v106 + 1))) else (some false)) else none) else (some true)
def spec_WindowOk.f (k : Nat) (a0 : S42) : Option Bool := (spec_l01In.f a0.f0 1 8).bind fun t103 => if t103 = true then ((spec_l01In.f a0.f1 1 100).bind fun t104 => if t104 = true then (if (a0.f2.length : Int) = (w64 (a0.f0 * 6)) then (spec_WindowOk.l0 k a0 0) else (some false)) else (some false)) else (some false)
theorem spec_WindowOk.go : Callable Tryz.prog 78 := ⟨_, Tryz.func78, by kernel_rfl, rfl⟩
theorem spec_WindowOk.ok (k : Nat) (a0 : S42) (r : Bool) (h : spec_WindowOk.f k a0 = some r) : VCalls Tryz.prog 78 [.agg (e42 a0)] [.c (.p (.sc (.bool r)))] := by
  unfold spec_WindowOk.f at h
  refine VCalls.of (fn := Tryz.f78) (N := 39) Tryz.func78 rfl rfl (fun w0 => ?_)
  obtain ⟨t103, g245, h⟩ := bindN h
  let C245 := mkCon (spec_l01In.ok a0.f0 1 8 t103 g245) spec_l01In.go
  by_cases c246 : t103 = true
  · replace h := (if_pos c246).symm.trans h
    obtain ⟨t104, g247, h⟩ := bindN h
    let C247 := mkCon (spec_l01In.ok a0.f1 1 100 t104 g247) spec_l01In.go
    by_cases c248 : t104 = true
    · replace h := (if_pos c248).symm.trans h
      by_cases c249 : (a0.f2.length : Int) = (w64 (a0.f0 * 6))
      · replace h := (if_pos c249).symm.trans h
        have H0 : ∀ (kq : Nat) (v106 : Int), spec_WindowOk.l0 kq a0 v106 = some r → AG Tryz.prog 78 39 [.c (.p (.sc (.bool r)))] w0 (headStk (codeOf Tryz.f78) 0) (mkFS (spec_WindowOk.h0T v106 a0) (spec_WindowOk.h0H v106 a0)) := by
          intro kq
          induction kq with
          | zero => intro v106 h; cases h
          | succ kq ih =>
            intro v106 h
            rw [spec_WindowOk.l0] at h
            by_cases c253 : v106 < (a0.f2.length : Int)
            · replace h := (if_pos c253).symm.trans h
              obtain ⟨c254, h⟩ := ifN h
              obtain ⟨t107, g255, h⟩ := bindN h
              let C255 := mkCon (spec_l01In.ok (rdD 0 a0.f2 v106) 0 a0.f1 t107 g255) spec_l01In.go
              by_cases c256 : t107 = true
              · replace h := (if_pos c256).symm.trans h
                exact byHead MX Tryz.func78 1000 [.b true, .call C255, .b false, .fin] (o1 (decide_eq_true c253) (o1 c254 (o1 c253 (oa (sc_ C255) (o1 (bnf c256) on))))) (ih (w64 (v106 + 1)) h) (by kernel_rfl)
              · replace h := (if_neg c256).symm.trans h
                cases h
                exact byRet MX Tryz.func78 1000 [.b true, .call C255, .b true, .fin] (o1 (decide_eq_true c253) (o1 c254 (o1 c253 (oa (sc_ C255) (o1 (bnt (eqf c256)) on))))) (by kernel_rfl)
            · replace h := (if_neg c253).symm.trans h
              cases h
              exact byRet MX Tryz.func78 1000 [.b false, .fin, .fin] (o1 (decide_eq_false c253) on) (by kernel_rfl)
        exact byHead MX Tryz.func78 1000 [.call C245, .dec 8 false, .call C247, .dec 14 false, .b false, .fin] (oa (sc_ C245) (o1 (bnf c246) (oa (sc_ C247) (o1 (bnf c248) (o1 (bnf (decide_eq_true c249)) on))))) (H0 k 0 h) (by kernel_rfl)
      · replace h := (if_neg c249).symm.trans h
        cases h
        exact byRet MX Tryz.func78 1000 [.call C245, .dec 8 false, .call C247, .dec 14 false, .b true, .fin] (oa (sc_ C245) (o1 (bnf c246) (oa (sc_ C247) (o1 (bnf c248) (o1 (bnt (decide_eq_false c249)) on))))) (by kernel_rfl)
    · replace h := (if_neg c248).symm.trans h
      cases h
      exact byRet MX Tryz.func78 1000 [.call C245, .dec 8 false, .call C247, .dec 14 true, .b true, .fin] (oa (sc_ C245) (o1 (bnf c246) (oa (sc_ C247) (o1 (bnt (eqf c248)) (o1 (rfl : true = true) on))))) (by kernel_rfl)
  · replace h := (if_neg c246).symm.trans h
    cases h
    exact byRet MX Tryz.func78 1000 [.call C245, .dec 8 true, .b true, .fin] (oa (sc_ C245) (o1 (bnt (eqf c246)) (o1 (rfl : true = true) on))) (by kernel_rfl)

/-! ### spec_RobotAt: function 57 -/
def spec_RobotAt.h0T (a0 : List S69) (a1 : Int) (v111 : Int) : List (Nat × AV) := [(0, .t (.c (.p false (R 4 e69 z69 a0)))), (1, .t (.c (.p false (.sc (.int .i64 a1))))), (5, .t (.c (.p true (.sc (.int .i64 v111)))))]
def spec_RobotAt.h0H (a0 : List S69) (a1 : Int) (v111 : Int) : List (Nat × Content) := []
def spec_RobotAt.l0 : Nat → List S69 → Int → Int → Option Int
  | 0, _, _, _ => none
  | kq + 1, a0, a1, v111 => if v111 < (a0.length : Int) then (if 0 ≤ v111 then (if (rdD z69 a0 v111).f0 = a1 then (some v111) else (spec_RobotAt.l0 kq a0 a1 (w64 (v111 + 1)))) else none) else (some (-1))
def spec_RobotAt.f (k : Nat) (a0 : List S69) (a1 : Int) : Option Int := spec_RobotAt.l0 k a0 a1 0
theorem spec_RobotAt.go : Callable Tryz.prog 57 := ⟨_, Tryz.func57, by kernel_rfl, rfl⟩
theorem spec_RobotAt.ok (k : Nat) (a0 : List S69) (a1 : Int) (r : Int) (h : spec_RobotAt.f k a0 a1 = some r) : VCalls Tryz.prog 57 [.c (R 4 e69 z69 a0), .c (.sc (.int .i64 a1))] [.c (.p (.sc (.int .i64 r)))] := by
  unfold spec_RobotAt.f at h
  refine VCalls.of (fn := Tryz.f57) (N := 20) Tryz.func57 rfl rfl (fun w0 => ?_)
  have H0 : ∀ (kq : Nat) (v111 : Int), spec_RobotAt.l0 kq a0 a1 v111 = some r → AG Tryz.prog 57 20 [.c (.p (.sc (.int .i64 r)))] w0 (headStk (codeOf Tryz.f57) 0) (mkFS (spec_RobotAt.h0T a0 a1 v111) (spec_RobotAt.h0H a0 a1 v111)) := by
    intro kq
    induction kq with
    | zero => intro v111 h; cases h
    | succ kq ih =>
      intro v111 h
      rw [spec_RobotAt.l0] at h
      by_cases c274 : v111 < (a0.length : Int)
      · replace h := (if_pos c274).symm.trans h
        obtain ⟨c275, h⟩ := ifN h
        by_cases c276 : (rdD z69 a0 v111).f0 = a1
        · replace h := (if_pos c276).symm.trans h
          cases h
          exact byRet MX Tryz.func57 1000 [.b true, .b true, .fin] (o1 (decide_eq_true c274) (o1 c275 (o1 c274 (o1 (decide_eq_true c276) on)))) (by kernel_rfl)
        · replace h := (if_neg c276).symm.trans h
          exact byHead MX Tryz.func57 1000 [.b true, .b false, .fin] (o1 (decide_eq_true c274) (o1 c275 (o1 c274 (o1 (decide_eq_false c276) on)))) (ih (w64 (v111 + 1)) h) (by kernel_rfl)
      · replace h := (if_neg c274).symm.trans h
        cases h
        exact byRet MX Tryz.func57 1000 [.b false, .fin, .fin] (o1 (decide_eq_false c274) on) (by kernel_rfl)
  exact byHead MX Tryz.func57 1000 [.fin] on (H0 k 0 h) (by kernel_rfl)

/-! ### spec_LayerOf: function 51 -/
def spec_LayerOf.h0T (v115 : Int) (v116 : Int) (a0 : S48) : List (Nat × AV) := [(1, .ptr 64 0), (3, .t (.c (.p true (.sc (.int .i64 v115))))), (4, .t (.c (.p true (.sc (.int .i64 v116)))))]
def spec_LayerOf.h0H (v115 : Int) (v116 : Int) (a0 : S48) : List (Nat × Content) := [(64, .box 48 [.p false (.sc (.int .i64 a0.f0.f0.f0)), .p false (.sc (.int .i64 a0.f0.f0.f1)), .p false (.sc (.string a0.f0.f0.f2)), .p false (.sc (.int .i64 a0.f0.f1)), .p false (.sc (.int .i64 a0.f0.f2)), .p false (.sc (.int .i64 a0.f0.f3)), .p false (.sc (.int .i64 a0.f0.f4)), .p false (R 4 e69 z69 a0.f1), .p false (.sc (.int .i64 a0.f2.f0)), .p false (.sc (.int .i64 a0.f2.f1)), .p false (R 1 (eI .i64) 0 a0.f2.f2), .p false (.sc (.int .i64 a0.f3)), .p false (.sc (.bool a0.f4)), .p false (.sc (.int .i64 a0.f5.f0)), .p false (.sc (.int .i64 a0.f5.f1)), .p false (R 1 e72 z72 a0.f5.f2), .p false (R 3 e74 z74 a0.f6), .p false (R 1 (eI .i64) 0 a0.f7)])]
def spec_LayerOf.l0 : Nat → S48 → Int → Int → Option Int
  | 0, _, _, _ => none
  | kq + 1, a0, v115, v116 => if v116 < (a0.f6.length : Int) then (if v116 = 0 then (if 0 ≤ v116 then (spec_LayerOf.l0 kq a0 ((rdD z74 a0.f6 v116).f1) (w64 (v116 + 1))) else none) else (if 0 ≤ v116 then (if (rdD z74 a0.f6 v116).f1 < v115 then (spec_LayerOf.l0 kq a0 ((rdD z74 a0.f6 v116).f1) (w64 (v116 + 1))) else (spec_LayerOf.l0 kq a0 v115 (w64 (v116 + 1)))) else none)) else (some v115)
def spec_LayerOf.f (k : Nat) (a0 : S48) : Option Int := spec_LayerOf.l0 k a0 (-1) 0
theorem spec_LayerOf.go : Callable Tryz.prog 51 := ⟨_, Tryz.func51, by kernel_rfl, rfl⟩
theorem spec_LayerOf.ok (k : Nat) (a0 : S48) (r : Int) (h : spec_LayerOf.f k a0 = some r) : VCalls Tryz.prog 51 [.agg (e48 a0)] [.c (.p (.sc (.int .i64 r)))] := by
  unfold spec_LayerOf.f at h
  refine VCalls.of (fn := Tryz.f51) (N := 31) Tryz.func51 rfl rfl (fun w0 => ?_)
  have H0 : ∀ (kq : Nat) (v115 : Int) (v116 : Int), spec_LayerOf.l0 kq a0 v115 v116 = some r → AG Tryz.prog 51 31 [.c (.p (.sc (.int .i64 r)))] w0 (headStk (codeOf Tryz.f51) 0) (mkFS (spec_LayerOf.h0T v115 v116 a0) (spec_LayerOf.h0H v115 v116 a0)) := by
    intro kq
    induction kq with
    | zero => intro v115 v116 h; cases h
    | succ kq ih =>
      intro v115 v116 h
      rw [spec_LayerOf.l0] at h
      by_cases c289 : v116 < (a0.f6.length : Int)
      · replace h := (if_pos c289).symm.trans h
        by_cases c290 : v116 = 0
        · replace h := (if_pos c290).symm.trans h
          obtain ⟨c291, h⟩ := ifN h
          exact byHead MX Tryz.func51 1000 [.b true, .dec 14 true, .b true, .fin] (o1 (decide_eq_true c289) (o1 (decide_eq_true c290) (o1 (rfl : true = true) (o1 c291 (o1 c289 on))))) (ih ((rdD z74 a0.f6 v116).f1) (w64 (v116 + 1)) h) (by kernel_rfl)
        · replace h := (if_neg c290).symm.trans h
          obtain ⟨c292, h⟩ := ifN h
          by_cases c293 : (rdD z74 a0.f6 v116).f1 < v115
          · replace h := (if_pos c293).symm.trans h
            exact byHead MX Tryz.func51 1000 [.b true, .dec 14 false, .b true, .fin] (o1 (decide_eq_true c289) (o1 (decide_eq_false c290) (o1 c292 (o1 c289 (o1 (decide_eq_true c293) (o1 c292 (o1 c289 on))))))) (ih ((rdD z74 a0.f6 v116).f1) (w64 (v116 + 1)) h) (by kernel_rfl)
          · replace h := (if_neg c293).symm.trans h
            exact byHead MX Tryz.func51 1000 [.b true, .dec 14 false, .b false, .fin] (o1 (decide_eq_true c289) (o1 (decide_eq_false c290) (o1 c292 (o1 c289 (o1 (decide_eq_false c293) on))))) (ih v115 (w64 (v116 + 1)) h) (by kernel_rfl)
      · replace h := (if_neg c289).symm.trans h
        cases h
        exact byRet MX Tryz.func51 1000 [.b false, .fin, .fin] (o1 (decide_eq_false c289) on) (by kernel_rfl)
  exact byHead MX Tryz.func51 1000 [.fin] on (H0 k (-1) 0 h) (by kernel_rfl)

/-! ### spec_l21Job: function 204 -/
def spec_l21Job.h0T (a1 : Int) (a0 : S48) (t112 : Int) (v118 : Int) : List (Nat × AV) := [(1, .t (.c (.p false (.sc (.int .i64 a1))))), (2, .ptr 128 0), (5, .ptr 320 0), (6, .t (.c (.p false (R 1 (eI .i64) 0 ((rdD z72 a0.f5.f2 a1).f0))))), (7, .t (.c (.p true (.sc (.int .i64 t112))))), (8, .t (.c (.p true (.sc (.int .i64 v118)))))]
def spec_l21Job.h0H (a1 : Int) (a0 : S48) (t112 : Int) (v118 : Int) : List (Nat × Content) := [(128, .box 48 [.p false (.sc (.int .i64 a0.f0.f0.f0)), .p false (.sc (.int .i64 a0.f0.f0.f1)), .p false (.sc (.string a0.f0.f0.f2)), .p false (.sc (.int .i64 a0.f0.f1)), .p false (.sc (.int .i64 a0.f0.f2)), .p false (.sc (.int .i64 a0.f0.f3)), .p false (.sc (.int .i64 a0.f0.f4)), .p false (R 4 e69 z69 a0.f1), .p false (.sc (.int .i64 a0.f2.f0)), .p false (.sc (.int .i64 a0.f2.f1)), .p false (R 1 (eI .i64) 0 a0.f2.f2), .p false (.sc (.int .i64 a0.f3)), .p false (.sc (.bool a0.f4)), .p false (.sc (.int .i64 a0.f5.f0)), .p false (.sc (.int .i64 a0.f5.f1)), .p false (R 1 e72 z72 a0.f5.f2), .p false (R 3 e74 z74 a0.f6), .p false (R 1 (eI .i64) 0 a0.f7)]), (320, .box 74 [.p false (.sc (.int .i64 ((rdD z74 a0.f6 a1).f0))), .p false (.sc (.int .i64 ((rdD z74 a0.f6 a1).f1))), .p false (.sc (.bool ((rdD z74 a0.f6 a1).f2)))])]
def spec_l21Job.l0 : Nat → Int → S48 → Int → Int → Option Bool
  | 0, _, _, _, _ => none
  | kq + 1, a1, a0, t112, v118 => if v118 < a1 then (if 0 ≤ v118 then (if v118 < (a0.f6.length : Int) then (if (rdD z74 a0.f6 v118).f0 = (rdD z74 a0.f6 a1).f0 then (some false) else (spec_l21Job.l0 kq a1 a0 t112 (w64 (v118 + 1)))) else none) else none) else (if 0 ≤ (rdD z74 a0.f6 a1).f1 then (if (rdD z74 a0.f6 a1).f1 < (((rdD z72 a0.f5.f2 a1).f0).length : Int) then (if (rdD z69 a0.f1 t112).f1 = (rdD 0 ((rdD z72 a0.f5.f2 a1).f0) ((rdD z74 a0.f6 a1).f1)) then (if (rdD z74 a0.f6 a1).f2 = true then (if (rdD z74 a0.f6 a1).f1 < a0.f5.f0 then (if 0 ≤ (w64 ((rdD z74 a0.f6 a1).f1 + 1)) then (if (w64 ((rdD z74 a0.f6 a1).f1 + 1)) < (((rdD z72 a0.f5.f2 a1).f0).length : Int) then (some (decide ((rdD z69 a0.f1 t112).f2 = (rdD 0 ((rdD z72 a0.f5.f2 a1).f0) (w64 ((rdD z74 a0.f6 a1).f1 + 1)))))) else none) else none) else (some false)) else (some (decide ((rdD z69 a0.f1 t112).f2 = (-1))))) else (some false)) else none) else none)
def spec_l21Job.f (k : Nat) (a0 : S48) (a1 : Int) : Option Bool := if 0 ≤ a1 then (if a1 < (a0.f6.length : Int) then (if a1 < (a0.f5.f2.length : Int) then ((spec_RobotAt.f k a0.f1 ((rdD z74 a0.f6 a1).f0)).bind fun t112 => if (w64 ((((rdD z72 a0.f5.f2 a1).f0).length : Int) - 1)) = a0.f5.f0 then (if t112 < 0 then (some false) else (if 0 ≤ t112 then (if t112 < (a0.f1.length : Int) then (if (rdD z69 a0.f1 t112).f3 = true then (some false) else ((spec_l01In.f ((rdD z74 a0.f6 a1).f1) 0 a0.f5.f0).bind fun t113 => if t113 = true then ((spec_LayerOf.f k a0).bind fun t117 => if (w64 (t117 + 1)) < (rdD z74 a0.f6 a1).f1 then (some false) else (spec_l21Job.l0 k a1 a0 t112 0)) else (some false))) else none) else none)) else (some false)) else none) else none) else none
theorem spec_l21Job.go : Callable Tryz.prog 204 := ⟨_, Tryz.func204, by kernel_rfl, rfl⟩
theorem spec_l21Job.ok (k : Nat) (a0 : S48) (a1 : Int) (r : Bool) (h : spec_l21Job.f k a0 a1 = some r) : VCalls Tryz.prog 204 [.agg (e48 a0), .c (.sc (.int .i64 a1))] [.c (.p (.sc (.bool r)))] := by
  unfold spec_l21Job.f at h
  refine VCalls.of (fn := Tryz.f204) (N := 118) Tryz.func204 rfl rfl (fun w0 => ?_)
  obtain ⟨c269, h⟩ := ifN h
  obtain ⟨c270, h⟩ := ifN h
  obtain ⟨c271, h⟩ := ifN h
  obtain ⟨t112, g277, h⟩ := bindN h
  let C277 := mkCon (spec_RobotAt.ok k a0.f1 ((rdD z74 a0.f6 a1).f0) t112 g277) spec_RobotAt.go
  by_cases c278 : (w64 ((((rdD z72 a0.f5.f2 a1).f0).length : Int) - 1)) = a0.f5.f0
  · replace h := (if_pos c278).symm.trans h
    by_cases c279 : t112 < 0
    · replace h := (if_pos c279).symm.trans h
      cases h
      exact byRet MX Tryz.func204 1000 [.call C277, .dec 33 false, .dec 37 true, .b true, .fin] (o1 c269 (o1 c270 (o1 c269 (o1 c271 (oa (sc_ C277) (o1 (bnf (decide_eq_true c278)) (o1 (decide_eq_true c279) (o1 (rfl : true = true) on)))))))) (by kernel_rfl)
    · replace h := (if_neg c279).symm.trans h
      obtain ⟨c280, h⟩ := ifN h
      obtain ⟨c281, h⟩ := ifN h
      by_cases c282 : (rdD z69 a0.f1 t112).f3 = true
      · replace h := (if_pos c282).symm.trans h
        cases h
        exact byRet MX Tryz.func204 1000 [.call C277, .dec 33 false, .dec 37 false, .dec 45 true, .b true, .fin] (o1 c269 (o1 c270 (o1 c269 (o1 c271 (oa (sc_ C277) (o1 (bnf (decide_eq_true c278)) (o1 (decide_eq_false c279) (o1 c280 (o1 c281 (o1 c282 (o1 (rfl : true = true) on))))))))))) (by kernel_rfl)
      · replace h := (if_neg c282).symm.trans h
        obtain ⟨t113, g283, h⟩ := bindN h
        let C283 := mkCon (spec_l01In.ok ((rdD z74 a0.f6 a1).f1) 0 a0.f5.f0 t113 g283) spec_l01In.go
        by_cases c284 : t113 = true
        · replace h := (if_pos c284).symm.trans h
          obtain ⟨t117, g294, h⟩ := bindN h
          let C294 := mkCon (spec_LayerOf.ok k a0 t117 g294) spec_LayerOf.go
          by_cases c295 : (w64 (t117 + 1)) < (rdD z74 a0.f6 a1).f1
          · replace h := (if_pos c295).symm.trans h
            cases h
            exact byRet MX Tryz.func204 1000 [.call C277, .dec 33 false, .dec 37 false, .dec 45 false, .call C283, .dec 54 false, .call C294, .b true, .fin] (o1 c269 (o1 c270 (o1 c269 (o1 c271 (oa (sc_ C277) (o1 (bnf (decide_eq_true c278)) (o1 (decide_eq_false c279) (o1 c280 (o1 c281 (o1 (eqf c282) (oa (sc_ C283) (o1 (bnf c284) (oa (sc_ C294) (o1 (decide_eq_true c295) on)))))))))))))) (by kernel_rfl)
          · replace h := (if_neg c295).symm.trans h
            have H0 : ∀ (kq : Nat) (v118 : Int), spec_l21Job.l0 kq a1 a0 t112 v118 = some r → AG Tryz.prog 204 118 [.c (.p (.sc (.bool r)))] w0 (headStk (codeOf Tryz.f204) 0) (mkFS (spec_l21Job.h0T a1 a0 t112 v118) (spec_l21Job.h0H a1 a0 t112 v118)) := by
              intro kq
              induction kq with
              | zero => intro v118 h; cases h
              | succ kq ih =>
                intro v118 h
                rw [spec_l21Job.l0] at h
                by_cases c299 : v118 < a1
                · replace h := (if_pos c299).symm.trans h
                  obtain ⟨c300, h⟩ := ifN h
                  obtain ⟨c301, h⟩ := ifN h
                  by_cases c302 : (rdD z74 a0.f6 v118).f0 = (rdD z74 a0.f6 a1).f0
                  · replace h := (if_pos c302).symm.trans h
                    cases h
                    exact byRet MX Tryz.func204 1000 [.b true, .b true, .fin] (o1 (decide_eq_true c299) (o1 c300 (o1 c301 (o1 (decide_eq_true c302) on)))) (by kernel_rfl)
                  · replace h := (if_neg c302).symm.trans h
                    exact byHead MX Tryz.func204 1000 [.b true, .b false, .fin] (o1 (decide_eq_true c299) (o1 c300 (o1 c301 (o1 (decide_eq_false c302) on)))) (ih (w64 (v118 + 1)) h) (by kernel_rfl)
                · replace h := (if_neg c299).symm.trans h
                  obtain ⟨c303, h⟩ := ifN h
                  obtain ⟨c304, h⟩ := ifN h
                  by_cases c305 : (rdD z69 a0.f1 t112).f1 = (rdD 0 ((rdD z72 a0.f5.f2 a1).f0) ((rdD z74 a0.f6 a1).f1))
                  · replace h := (if_pos c305).symm.trans h
                    by_cases c306 : (rdD z74 a0.f6 a1).f2 = true
                    · replace h := (if_pos c306).symm.trans h
                      by_cases c307 : (rdD z74 a0.f6 a1).f1 < a0.f5.f0
                      · replace h := (if_pos c307).symm.trans h
                        obtain ⟨c308, h⟩ := ifN h
                        obtain ⟨c309, h⟩ := ifN h
                        cases h
                        exact byRet MX Tryz.func204 1000 [.b false, .fin, .b false, .b true, .dec 96 true, .fin] (o1 (decide_eq_false c299) (o1 c280 (o1 c281 (o1 c303 (o1 c304 (o1 (bnf (decide_eq_true c305)) (o1 c306 (o1 (decide_eq_true c307) (o1 c280 (o1 c281 (o1 c308 (o1 c309 on)))))))))))) (by kernel_rfl)
                      · replace h := (if_neg c307).symm.trans h
                        cases h
                        exact byRet MX Tryz.func204 1000 [.b false, .fin, .b false, .b true, .dec 96 false, .fin] (o1 (decide_eq_false c299) (o1 c280 (o1 c281 (o1 c303 (o1 c304 (o1 (bnf (decide_eq_true c305)) (o1 c306 (o1 (decide_eq_false c307) on)))))))) (by kernel_rfl)
                    · replace h := (if_neg c306).symm.trans h
                      cases h
                      exact byRet MX Tryz.func204 1000 [.b false, .fin, .b false, .b false, .fin] (o1 (decide_eq_false c299) (o1 c280 (o1 c281 (o1 c303 (o1 c304 (o1 (bnf (decide_eq_true c305)) (o1 (eqf c306) (o1 c280 (o1 c281 on))))))))) (by kernel_rfl)
                  · replace h := (if_neg c305).symm.trans h
                    cases h
                    exact byRet MX Tryz.func204 1000 [.b false, .fin, .b true, .fin] (o1 (decide_eq_false c299) (o1 c280 (o1 c281 (o1 c303 (o1 c304 (o1 (bnt (decide_eq_false c305)) on)))))) (by kernel_rfl)
            exact byHead MX Tryz.func204 1000 [.call C277, .dec 33 false, .dec 37 false, .dec 45 false, .call C283, .dec 54 false, .call C294, .b false, .fin] (o1 c269 (o1 c270 (o1 c269 (o1 c271 (oa (sc_ C277) (o1 (bnf (decide_eq_true c278)) (o1 (decide_eq_false c279) (o1 c280 (o1 c281 (o1 (eqf c282) (oa (sc_ C283) (o1 (bnf c284) (oa (sc_ C294) (o1 (decide_eq_false c295) on)))))))))))))) (H0 k 0 h) (by kernel_rfl)
        · replace h := (if_neg c284).symm.trans h
          cases h
          exact byRet MX Tryz.func204 1000 [.call C277, .dec 33 false, .dec 37 false, .dec 45 false, .call C283, .dec 54 true, .b true, .fin] (o1 c269 (o1 c270 (o1 c269 (o1 c271 (oa (sc_ C277) (o1 (bnf (decide_eq_true c278)) (o1 (decide_eq_false c279) (o1 c280 (o1 c281 (o1 (eqf c282) (oa (sc_ C283) (o1 (bnt (eqf c284)) (o1 (rfl : true = true) on))))))))))))) (by kernel_rfl)
  · replace h := (if_neg c278).symm.trans h
    cases h
    exact byRet MX Tryz.func204 1000 [.call C277, .dec 33 true, .b true, .fin] (o1 c269 (o1 c270 (o1 c269 (o1 c271 (oa (sc_ C277) (o1 (bnt (decide_eq_false c278)) (o1 (rfl : true = true) on))))))) (by kernel_rfl)
end Go.Proofs.YtoaknaceaghclaaGreat.V
