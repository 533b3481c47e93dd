/- What each Go function computes, and that the machine does so: printed by a program of this session (avgen.py). -/
import Derived.Test.YtoaknaceaghclaaGreatV2
namespace Go.Proofs.YtoaknaceaghclaaGreat.V
open Go Go.Av Go.Proofs
set_option linter.unusedVariables false
set_option maxRecDepth 100000
/-! ### spec_MeetAt: function 152 -/
def spec_MeetAt.h1T (a0 : List S72) (a1 : Int) (v211 : Int) (v212 : Int) : List (Nat × AV) := [(0, .t (.c (.p false (R 1 e72 z72 a0)))), (1, .t (.c (.p false (.sc (.int .i64 a1))))), (5, .t (.c (.p true (.sc (.int .i64 v211))))), (6, .t (.c (.p true (.sc (.int .i64 v212)))))]
def spec_MeetAt.h1H (a0 : List S72) (a1 : Int) (v211 : Int) (v212 : Int) : List (Nat × Content) := []
def spec_MeetAt.x1T (a0 : List S72) (a1 : Int) (v211 : Int) : List (Nat × AV) := [(0, .t (.c (.p false (R 1 e72 z72 a0)))), (1, .t (.c (.p false (.sc (.int .i64 a1))))), (5, .t (.c (.p true (.sc (.int .i64 v211)))))]
def spec_MeetAt.x1H (a0 : List S72) (a1 : Int) (v211 : Int) : List (Nat × Content) := []
def spec_MeetAt.l1 : Nat → Int → Int → List S72 → Int → Option (Bool ⊕ Unit)
  | 0, _, _, _, _ => none
  | kq + 1, v211, a1, a0, v212 => if v212 < v211 then (if 0 ≤ v211 then (if 0 ≤ a1 then (if a1 < (((rdD z72 a0 v211).f0).length : Int) then (if 0 ≤ v212 then (if v212 < (a0.length : Int) then (if a1 < (((rdD z72 a0 v212).f0).length : Int) then (if (rdD 0 ((rdD z72 a0 v211).f0) a1) = (rdD 0 ((rdD z72 a0 v212).f0) a1) then (some (.inl true)) else (if 0 ≤ (w64 (a1 + 1)) then (if (w64 (a1 + 1)) < (((rdD z72 a0 v211).f0).length : Int) then (if (w64 (a1 + 1)) < (((rdD z72 a0 v212).f0).length : Int) then (if (rdD 0 ((rdD z72 a0 v211).f0) (w64 (a1 + 1))) = (rdD 0 ((rdD z72 a0 v212).f0) (w64 (a1 + 1))) then (some (.inl true)) else (spec_MeetAt.l1 kq v211 a1 a0 (w64 (v212 + 1)))) else none) else none) else none)) else none) else none) else none) else none) else none) else none) else (some (.inr ()))
def spec_MeetAt.h0T (a0 : List S72) (a1 : Int) (v211 : Int) : List (Nat × AV) := [(0, .t (.c (.p false (R 1 e72 z72 a0)))), (1, .t (.c (.p false (.sc (.int .i64 a1))))), (5, .t (.c (.p true (.sc (.int .i64 v211)))))]
def spec_MeetAt.h0H (a0 : List S72) (a1 : Int) (v211 : Int) : List (Nat × Content) := []
def spec_MeetAt.l0 : Nat → List S72 → Int → Int → Option Bool
  | 0, _, _, _ => none
  | kq + 1, a0, a1, v211 => if v211 < (a0.length : Int) then ((spec_MeetAt.l1 kq v211 a1 a0 0).bind fun x648 => match x648 with | .inl r => some r | .inr y213 => (spec_MeetAt.l0 kq a0 a1 (w64 (v211 + 1)))) else (some false)
def spec_MeetAt.f (k : Nat) (a0 : List S72) (a1 : Int) : Option Bool := (spec_LevelWays.f k a0 a1).bind fun t208 => if t208 = true then (spec_MeetAt.l0 k a0 a1 0) else (some false)
theorem spec_MeetAt.go : Callable Tryz.prog 152 := ⟨_, Tryz.func152, by kernel_rfl, rfl⟩
theorem spec_MeetAt.ok (k : Nat) (a0 : List S72) (a1 : Int) (r : Bool) (h : spec_MeetAt.f k a0 a1 = some r) : VCalls Tryz.prog 152 [.c (R 1 e72 z72 a0), .c (.sc (.int .i64 a1))] [.c (.p (.sc (.bool r)))] := by
  unfold spec_MeetAt.f at h
  refine VCalls.of (fn := Tryz.f152) (N := 60) Tryz.func152 rfl rfl (fun w0 => ?_)
  obtain ⟨t208, g603, h⟩ := bindN h
  let C603 := mkCon (spec_LevelWays.ok k a0 a1 t208 g603) spec_LevelWays.go
  by_cases c604 : t208 = true
  · replace h := (if_pos c604).symm.trans h
    have H0 : ∀ (kq : Nat) (v211 : Int), spec_MeetAt.l0 kq a0 a1 v211 = some r → AG Tryz.prog 152 60 [.c (.p (.sc (.bool r)))] w0 (headStk (codeOf Tryz.f152) 0) (mkFS (spec_MeetAt.h0T a0 a1 v211) (spec_MeetAt.h0H a0 a1 v211)) := by
      intro kq
      induction kq with
      | zero => intro v211 h; cases h
      | succ kq ih =>
        intro v211 h
        rw [spec_MeetAt.l0] at h
        by_cases c624 : v211 < (a0.length : Int)
        · replace h := (if_pos c624).symm.trans h
          have H1 : ∀ (kq : Nat) (v212 : Int) (x : (Bool ⊕ Unit)), spec_MeetAt.l1 kq v211 a1 a0 v212 = some x → (match x with | .inl r' => r' = r | .inr y213 => AG Tryz.prog 152 60 [.c (.p (.sc (.bool r)))] w0 (exitStk (codeOf Tryz.f152) 1) (mkFS (spec_MeetAt.x1T a0 a1 v211) (spec_MeetAt.x1H a0 a1 v211))) → AG Tryz.prog 152 60 [.c (.p (.sc (.bool r)))] w0 (headStk (codeOf Tryz.f152) 1) (mkFS (spec_MeetAt.h1T a0 a1 v211 v212) (spec_MeetAt.h1H a0 a1 v211 v212)) := by
            intro kq
            induction kq with
            | zero => intro v212 x h hx; cases h
            | succ kq ih =>
              intro v212 x h hx
              rw [spec_MeetAt.l1] at h
              by_cases c636 : v212 < v211
              · replace h := (if_pos c636).symm.trans h
                obtain ⟨c637, h⟩ := ifN h
                obtain ⟨c638, h⟩ := ifN h
                obtain ⟨c639, h⟩ := ifN h
                obtain ⟨c640, h⟩ := ifN h
                obtain ⟨c641, h⟩ := ifN h
                obtain ⟨c642, h⟩ := ifN h
                by_cases c643 : (rdD 0 ((rdD z72 a0 v211).f0) a1) = (rdD 0 ((rdD z72 a0 v212).f0) a1)
                · replace h := (if_pos c643).symm.trans h
                  cases h
                  subst hx
                  exact byRet MX Tryz.func152 1000 [.b true, .dec 39 true, .b true, .fin] (o1 (decide_eq_true c636) (o1 c637 (o1 c624 (o1 c638 (o1 c639 (o1 c640 (o1 c641 (o1 c638 (o1 c642 (o1 (decide_eq_true c643) (o1 (rfl : true = true) on))))))))))) (by kernel_rfl)
                · replace h := (if_neg c643).symm.trans h
                  obtain ⟨c644, h⟩ := ifN h
                  obtain ⟨c645, h⟩ := ifN h
                  obtain ⟨c646, h⟩ := ifN h
                  by_cases c647 : (rdD 0 ((rdD z72 a0 v211).f0) (w64 (a1 + 1))) = (rdD 0 ((rdD z72 a0 v212).f0) (w64 (a1 + 1)))
                  · replace h := (if_pos c647).symm.trans h
                    cases h
                    subst hx
                    exact byRet MX Tryz.func152 1000 [.b true, .dec 39 false, .b true, .fin] (o1 (decide_eq_true c636) (o1 c637 (o1 c624 (o1 c638 (o1 c639 (o1 c640 (o1 c641 (o1 c638 (o1 c642 (o1 (decide_eq_false c643) (o1 c637 (o1 c624 (o1 c644 (o1 c645 (o1 c640 (o1 c641 (o1 c644 (o1 c646 (o1 (decide_eq_true c647) on))))))))))))))))))) (by kernel_rfl)
                  · replace h := (if_neg c647).symm.trans h
                    exact byHead MX Tryz.func152 1000 [.b true, .dec 39 false, .b false, .fin] (o1 (decide_eq_true c636) (o1 c637 (o1 c624 (o1 c638 (o1 c639 (o1 c640 (o1 c641 (o1 c638 (o1 c642 (o1 (decide_eq_false c643) (o1 c637 (o1 c624 (o1 c644 (o1 c645 (o1 c640 (o1 c641 (o1 c644 (o1 c646 (o1 (decide_eq_false c647) on))))))))))))))))))) (ih (w64 (v212 + 1)) _ h hx) (by kernel_rfl)
              · replace h := (if_neg c636).symm.trans h
                cases h
                exact byStop MX Tryz.func152 1000 [.b false, .fin] (o1 (decide_eq_false c636) on) hx (by kernel_rfl)
          obtain ⟨x648, g648, h⟩ := bindN h
          cases x648 with
          | inl r' =>
            exact byHead MX Tryz.func152 1000 [.b true, .fin] (o1 (decide_eq_true c624) on) (H1 kq 0 _ g648 (Option.some.inj h)) (by kernel_rfl)
          | inr y213 =>
            refine byHead MX Tryz.func152 1000 [.b true, .fin] (o1 (decide_eq_true c624) on) (H1 kq 0 _ g648 ?_) (by kernel_rfl)
            show AG Tryz.prog 152 60 [.c (.p (.sc (.bool r)))] w0 (exitStk (codeOf Tryz.f152) 1) (mkFS (spec_MeetAt.x1T a0 a1 v211) (spec_MeetAt.x1H a0 a1 v211))
            exact byHead MX Tryz.func152 1000 [.fin] on (ih (w64 (v211 + 1)) h) (by kernel_rfl)
        · replace h := (if_neg c624).symm.trans h
          cases h
          exact byRet MX Tryz.func152 1000 [.b false, .fin, .fin] (o1 (decide_eq_false c624) on) (by kernel_rfl)
    exact byHead MX Tryz.func152 1000 [.call C603, .b false, .fin] (oa (sc_ C603) (o1 (bnf c604) on)) (H0 k 0 h) (by kernel_rfl)
  · replace h := (if_neg c604).symm.trans h
    cases h
    exact byRet MX Tryz.func152 1000 [.call C603, .b true, .fin] (oa (sc_ C603) (o1 (bnt (eqf c604)) on)) (by kernel_rfl)

/-! ### spec_l12Ring: function 235 -/
def spec_l12Ring.h1T (a0 : List S72) (a1 : Int) (a2 : Int) (v230 : Int) (v231 : Int) (v236 : Int) (v235 : Int) : List (Nat × AV) := [(0, .t (.c (.p false (R 1 e72 z72 a0)))), (1, .t (.c (.p false (.sc (.int .i64 a1))))), (2, .t (.c (.p false (.sc (.int .i64 a2))))), (7, .t (.c (.p false (.sc (.int .i64 v230))))), (8, .t (.c (.p true (.sc (.int .i64 v231))))), (9, .t (.c (.p true (.sc (.int .i64 v236))))), (10, .t (.c (.p true (.sc (.int .i64 v235)))))]
def spec_l12Ring.h1H (a0 : List S72) (a1 : Int) (a2 : Int) (v230 : Int) (v231 : Int) (v236 : Int) (v235 : Int) : List (Nat × Content) := []
def spec_l12Ring.x1T (a0 : List S72) (a1 : Int) (a2 : Int) (v231 : Int) (y237 : Int) : List (Nat × AV) := [(0, .t (.c (.p false (R 1 e72 z72 a0)))), (1, .t (.c (.p false (.sc (.int .i64 a1))))), (2, .t (.c (.p false (.sc (.int .i64 a2))))), (8, .t (.c (.p true (.sc (.int .i64 v231))))), (9, .t (.c (.p true (.sc (.int .i64 y237)))))]
def spec_l12Ring.x1H (a0 : List S72) (a1 : Int) (a2 : Int) (v231 : Int) (y237 : Int) : List (Nat × Content) := []
def spec_l12Ring.l1 : Nat → List S72 → Int → Int → Int → Int → Option Int
  | 0, _, _, _, _, _ => none
  | kq + 1, a0, a1, v230, v235, v236 => if v235 < (a0.length : Int) then (if 0 ≤ v235 then (if 0 ≤ a1 then (if a1 < (((rdD z72 a0 v235).f0).length : Int) then (if 0 ≤ v230 then (if v230 < (a0.length : Int) then (if 0 ≤ (w64 (a1 + 1)) then (if (w64 (a1 + 1)) < (((rdD z72 a0 v230).f0).length : Int) then (if (rdD 0 ((rdD z72 a0 v235).f0) a1) = (rdD 0 ((rdD z72 a0 v230).f0) (w64 (a1 + 1))) then (spec_l12Ring.l1 kq a0 a1 v230 (w64 (v235 + 1)) v235) else (spec_l12Ring.l1 kq a0 a1 v230 (w64 (v235 + 1)) v236)) else none) else none) else none) else none) else none) else none) else none) else (some v236)
def spec_l12Ring.h0T (a0 : List S72) (a1 : Int) (a2 : Int) (v230 : Int) (v231 : Int) : List (Nat × AV) := [(0, .t (.c (.p false (R 1 e72 z72 a0)))), (1, .t (.c (.p false (.sc (.int .i64 a1))))), (2, .t (.c (.p false (.sc (.int .i64 a2))))), (7, .t (.c (.p false (.sc (.int .i64 v230))))), (8, .t (.c (.p true (.sc (.int .i64 v231)))))]
def spec_l12Ring.h0H (a0 : List S72) (a1 : Int) (a2 : Int) (v230 : Int) (v231 : Int) : List (Nat × Content) := []
def spec_l12Ring.l0 : Nat → List S72 → Int → Int → Int → Int → Option Int
  | 0, _, _, _, _, _ => none
  | kq + 1, a0, a1, a2, v230, v231 => if v231 ≤ (a0.length : Int) then ((spec_l12Ring.l1 kq a0 a1 v230 0 (-1)).bind fun y237 => (if y237 < 0 then (some 0) else (if y237 = a2 then (some v231) else (spec_l12Ring.l0 kq a0 a1 a2 y237 (w64 (v231 + 1)))))) else (some 0)
def spec_l12Ring.f (k : Nat) (a0 : List S72) (a1 : Int) (a2 : Int) : Option Int := spec_l12Ring.l0 k a0 a1 a2 a2 1
theorem spec_l12Ring.go : Callable Tryz.prog 235 := ⟨_, Tryz.func235, by kernel_rfl, rfl⟩
theorem spec_l12Ring.ok (k : Nat) (a0 : List S72) (a1 : Int) (a2 : Int) (r : Int) (h : spec_l12Ring.f k a0 a1 a2 = some r) : VCalls Tryz.prog 235 [.c (R 1 e72 z72 a0), .c (.sc (.int .i64 a1)), .c (.sc (.int .i64 a2))] [.c (.p (.sc (.int .i64 r)))] := by
  unfold spec_l12Ring.f at h
  refine VCalls.of (fn := Tryz.f235) (N := 50) Tryz.func235 rfl rfl (fun w0 => ?_)
  have H0 : ∀ (kq : Nat) (v230 : Int) (v231 : Int), spec_l12Ring.l0 kq a0 a1 a2 v230 v231 = some r → AG Tryz.prog 235 50 [.c (.p (.sc (.int .i64 r)))] w0 (headStk (codeOf Tryz.f235) 0) (mkFS (spec_l12Ring.h0T a0 a1 a2 v230 v231) (spec_l12Ring.h0H a0 a1 a2 v230 v231)) := by
    intro kq
    induction kq with
    | zero => intro v230 v231 h; cases h
    | succ kq ih =>
      intro v230 v231 h
      rw [spec_l12Ring.l0] at h
      by_cases c731 : v231 ≤ (a0.length : Int)
      · replace h := (if_pos c731).symm.trans h
        have H1 : ∀ (kq : Nat) (v235 : Int) (v236 : Int) (x : Int), spec_l12Ring.l1 kq a0 a1 v230 v235 v236 = some x → AG Tryz.prog 235 50 [.c (.p (.sc (.int .i64 r)))] w0 (exitStk (codeOf Tryz.f235) 1) (mkFS (spec_l12Ring.x1T a0 a1 a2 v231 x) (spec_l12Ring.x1H a0 a1 a2 v231 x)) → AG Tryz.prog 235 50 [.c (.p (.sc (.int .i64 r)))] w0 (headStk (codeOf Tryz.f235) 1) (mkFS (spec_l12Ring.h1T a0 a1 a2 v230 v231 v236 v235) (spec_l12Ring.h1H a0 a1 a2 v230 v231 v236 v235)) := by
          intro kq
          induction kq with
          | zero => intro v235 v236 x h hx; cases h
          | succ kq ih =>
            intro v235 v236 x h hx
            rw [spec_l12Ring.l1] at h
            by_cases c757 : v235 < (a0.length : Int)
            · replace h := (if_pos c757).symm.trans h
              obtain ⟨c758, h⟩ := ifN h
              obtain ⟨c759, h⟩ := ifN h
              obtain ⟨c760, h⟩ := ifN h
              obtain ⟨c761, h⟩ := ifN h
              obtain ⟨c762, h⟩ := ifN h
              obtain ⟨c763, h⟩ := ifN h
              obtain ⟨c764, h⟩ := ifN h
              by_cases c765 : (rdD 0 ((rdD z72 a0 v235).f0) a1) = (rdD 0 ((rdD z72 a0 v230).f0) (w64 (a1 + 1)))
              · replace h := (if_pos c765).symm.trans h
                exact byHead MX Tryz.func235 1000 [.b true, .b true, .fin] (o1 (decide_eq_true c757) (o1 c758 (o1 c757 (o1 c759 (o1 c760 (o1 c761 (o1 c762 (o1 c763 (o1 c764 (o1 (decide_eq_true c765) on)))))))))) (ih (w64 (v235 + 1)) v235 _ h hx) (by kernel_rfl)
              · replace h := (if_neg c765).symm.trans h
                exact byHead MX Tryz.func235 1000 [.b true, .b false, .fin] (o1 (decide_eq_true c757) (o1 c758 (o1 c757 (o1 c759 (o1 c760 (o1 c761 (o1 c762 (o1 c763 (o1 c764 (o1 (decide_eq_false c765) on)))))))))) (ih (w64 (v235 + 1)) v236 _ h hx) (by kernel_rfl)
            · replace h := (if_neg c757).symm.trans h
              cases h
              exact byStop MX Tryz.func235 1000 [.b false, .fin] (o1 (decide_eq_false c757) on) hx (by kernel_rfl)
        obtain ⟨y237, g768, h⟩ := bindN h
        refine byHead MX Tryz.func235 1000 [.b true, .fin] (o1 (decide_eq_true c731) on) (H1 kq 0 (-1) _ g768 ?_) (by kernel_rfl)
        by_cases c766 : y237 < 0
        · replace h := (if_pos c766).symm.trans h
          cases h
          exact byRet MX Tryz.func235 1000 [.b true, .fin] (o1 (decide_eq_true c766) on) (by kernel_rfl)
        · replace h := (if_neg c766).symm.trans h
          by_cases c767 : y237 = a2
          · replace h := (if_pos c767).symm.trans h
            cases h
            exact byRet MX Tryz.func235 1000 [.b false, .b true, .fin] (o1 (decide_eq_false c766) (o1 (decide_eq_true c767) on)) (by kernel_rfl)
          · replace h := (if_neg c767).symm.trans h
            exact byHead MX Tryz.func235 1000 [.b false, .b false, .fin] (o1 (decide_eq_false c766) (o1 (decide_eq_false c767) on)) (ih y237 (w64 (v231 + 1)) h) (by kernel_rfl)
      · replace h := (if_neg c731).symm.trans h
        cases h
        exact byRet MX Tryz.func235 1000 [.b false, .fin, .fin] (o1 (decide_eq_false c731) on) (by kernel_rfl)
  exact byHead MX Tryz.func235 1000 [.fin] on (H0 k a2 1 h) (by kernel_rfl)

/-! ### spec_l12Count: function 207 -/
def spec_l12Count.h0T (a0 : List S72) (a1 : Int) (a2 : Int) (a3 : Int) (v244 : Int) (v243 : Int) : List (Nat × AV) := [(0, .t (.c (.p false (R 1 e72 z72 a0)))), (1, .t (.c (.p false (.sc (.int .i64 a1))))), (2, .t (.c (.p false (.sc (.int .i64 a2))))), (3, .t (.c (.p false (.sc (.int .i64 a3))))), (9, .t (.c (.p true (.sc (.int .i64 v244))))), (10, .t (.c (.p true (.sc (.int .i64 v243)))))]
def spec_l12Count.h0H (a0 : List S72) (a1 : Int) (a2 : Int) (a3 : Int) (v244 : Int) (v243 : Int) : List (Nat × Content) := []
def spec_l12Count.l0 : Nat → List S72 → Int → Int → Int → Int → Int → Option Int
  | 0, _, _, _, _, _, _ => none
  | kq + 1, a0, a1, a2, a3, v243, v244 => if v243 < (a0.length : Int) then ((spec_l12Ring.f kq a0 a1 v243).bind fun t245 => (spec_l01In.f t245 a2 a3).bind fun t246 => if t246 = true then (spec_l12Count.l0 kq a0 a1 a2 a3 (w64 (v243 + 1)) (w64 (v244 + 1))) else (spec_l12Count.l0 kq a0 a1 a2 a3 (w64 (v243 + 1)) v244)) else (some v244)
def spec_l12Count.f (k : Nat) (a0 : List S72) (a1 : Int) (a2 : Int) (a3 : Int) : Option Int := (spec_LevelWays.f k a0 a1).bind fun t215 => if t215 = true then ((spec_MeetAt.f k a0 a1).bind fun t216 => if t216 = true then (some 0) else (spec_l12Count.l0 k a0 a1 a2 a3 0 0)) else (some 0)
theorem spec_l12Count.go : Callable Tryz.prog 207 := ⟨_, Tryz.func207, by kernel_rfl, rfl⟩
theorem spec_l12Count.ok (k : Nat) (a0 : List S72) (a1 : Int) (a2 : Int) (a3 : Int) (r : Int) (h : spec_l12Count.f k a0 a1 a2 a3 = some r) : VCalls Tryz.prog 207 [.c (R 1 e72 z72 a0), .c (.sc (.int .i64 a1)), .c (.sc (.int .i64 a2)), .c (.sc (.int .i64 a3))] [.c (.p (.sc (.int .i64 r)))] := by
  unfold spec_l12Count.f at h
  refine VCalls.of (fn := Tryz.f207) (N := 36) Tryz.func207 rfl rfl (fun w0 => ?_)
  obtain ⟨t215, g652, h⟩ := bindN h
  let C652 := mkCon (spec_LevelWays.ok k a0 a1 t215 g652) spec_LevelWays.go
  by_cases c653 : t215 = true
  · replace h := (if_pos c653).symm.trans h
    obtain ⟨t216, g654, h⟩ := bindN h
    let C654 := mkCon (spec_MeetAt.ok k a0 a1 t216 g654) spec_MeetAt.go
    by_cases c655 : t216 = true
    · replace h := (if_pos c655).symm.trans h
      cases h
      exact byRet MX Tryz.func207 1000 [.call C652, .dec 15 false, .call C654, .b true, .fin] (oa (sc_ C652) (o1 (bnf c653) (oa (sc_ C654) (o1 c655 on)))) (by kernel_rfl)
    · replace h := (if_neg c655).symm.trans h
      have H0 : ∀ (kq : Nat) (v243 : Int) (v244 : Int), spec_l12Count.l0 kq a0 a1 a2 a3 v243 v244 = some r → AG Tryz.prog 207 36 [.c (.p (.sc (.int .i64 r)))] w0 (headStk (codeOf Tryz.f207) 0) (mkFS (spec_l12Count.h0T a0 a1 a2 a3 v244 v243) (spec_l12Count.h0H a0 a1 a2 a3 v244 v243)) := by
        intro kq
        induction kq with
        | zero => intro v243 v244 h; cases h
        | succ kq ih =>
          intro v243 v244 h
          rw [spec_l12Count.l0] at h
          by_cases c776 : v243 < (a0.length : Int)
          · replace h := (if_pos c776).symm.trans h
            obtain ⟨t245, g777, h⟩ := bindN h
            let C777 := mkCon (spec_l12Ring.ok kq a0 a1 v243 t245 g777) spec_l12Ring.go
            obtain ⟨t246, g778, h⟩ := bindN h
            let C778 := mkCon (spec_l01In.ok t245 a2 a3 t246 g778) spec_l01In.go
            by_cases c779 : t246 = true
            · replace h := (if_pos c779).symm.trans h
              exact byHead MX Tryz.func207 1000 [.b true, .call C777, .call C778, .b true, .fin] (o1 (decide_eq_true c776) (oa (sc_ C777) (oa (sc_ C778) (o1 c779 on)))) (ih (w64 (v243 + 1)) (w64 (v244 + 1)) h) (by kernel_rfl)
            · replace h := (if_neg c779).symm.trans h
              exact byHead MX Tryz.func207 1000 [.b true, .call C777, .call C778, .b false, .fin] (o1 (decide_eq_true c776) (oa (sc_ C777) (oa (sc_ C778) (o1 (eqf c779) on)))) (ih (w64 (v243 + 1)) v244 h) (by kernel_rfl)
          · replace h := (if_neg c776).symm.trans h
            cases h
            exact byRet MX Tryz.func207 1000 [.b false, .fin, .fin] (o1 (decide_eq_false c776) on) (by kernel_rfl)
      exact byHead MX Tryz.func207 1000 [.call C652, .dec 15 false, .call C654, .b false, .fin] (oa (sc_ C652) (o1 (bnf c653) (oa (sc_ C654) (o1 (eqf c655) on)))) (H0 k 0 0 h) (by kernel_rfl)
  · replace h := (if_neg c653).symm.trans h
    cases h
    exact byRet MX Tryz.func207 1000 [.call C652, .dec 15 true, .b true, .fin] (oa (sc_ C652) (o1 (bnt (eqf c653)) (o1 (rfl : true = true) on))) (by kernel_rfl)

/-! ### spec_SwapsAt: function 153 -/
def spec_SwapsAt.f (k : Nat) (a0 : List S72) (a1 : Int) : Option Int := (spec_l12Count.f k a0 a1 2 2).bind fun t247 => some (w64 (t247.tdiv 2))
theorem spec_SwapsAt.go : Callable Tryz.prog 153 := ⟨_, Tryz.func153, by kernel_rfl, rfl⟩
theorem spec_SwapsAt.ok (k : Nat) (a0 : List S72) (a1 : Int) (r : Int) (h : spec_SwapsAt.f k a0 a1 = some r) : VCalls Tryz.prog 153 [.c (R 1 e72 z72 a0), .c (.sc (.int .i64 a1))] [.c (.p (.sc (.int .i64 r)))] := by
  unfold spec_SwapsAt.f at h
  refine VCalls.of (fn := Tryz.f153) (N := 9) Tryz.func153 rfl rfl (fun w0 => ?_)
  obtain ⟨t247, g780, h⟩ := bindN h
  let C780 := mkCon (spec_l12Count.ok k a0 a1 2 2 t247 g780) spec_l12Count.go
  cases h
  exact byRet MX Tryz.func153 1000 [.call C780, .fin] (oa (sc_ C780) (o1 (by decide : (2 : Int) ≠ 0) on)) (by kernel_rfl)

/-! ### spec_RingsAt: function 154 -/
def spec_RingsAt.f (k : Nat) (a0 : List S72) (a1 : Int) : Option Int := (spec_l12Count.f k a0 a1 3 10).bind fun t249 => some t249
theorem spec_RingsAt.go : Callable Tryz.prog 154 := ⟨_, Tryz.func154, by kernel_rfl, rfl⟩
theorem spec_RingsAt.ok (k : Nat) (a0 : List S72) (a1 : Int) (r : Int) (h : spec_RingsAt.f k a0 a1 = some r) : VCalls Tryz.prog 154 [.c (R 1 e72 z72 a0), .c (.sc (.int .i64 a1))] [.c (.p (.sc (.int .i64 r)))] := by
  unfold spec_RingsAt.f at h
  refine VCalls.of (fn := Tryz.f154) (N := 8) Tryz.func154 rfl rfl (fun w0 => ?_)
  obtain ⟨t249, g784, h⟩ := bindN h
  let C784 := mkCon (spec_l12Count.ok k a0 a1 3 10 t249 g784) spec_l12Count.go
  cases h
  exact byRet MX Tryz.func154 1000 [.call C784, .fin] (oa (sc_ C784) on) (by kernel_rfl)

/-! ### spec_EndsOf: function 155 -/
def spec_EndsOf.h0T (a0 : List S72) (v276 : Int) (v275 : List Int) : List (Nat × AV) := [(0, .t (.c (.p false (R 1 e72 z72 a0)))), (3, .t (.c (.h 320))), (4, .t (.c (.p true (.sc (.int .i64 v276)))))]
def spec_EndsOf.h0H (a0 : List S72) (v276 : Int) (v275 : List Int) : List (Nat × Content) := [(320, .row 3 1 v275.length (fun j => (eI .i64) (v275.getD j 0)) true)]
def spec_EndsOf.l0 : Nat → List S72 → List Int → Int → Option (List Int)
  | 0, _, _, _ => none
  | kq + 1, a0, v275, v276 => if v276 < (a0.length : Int) then (if 0 ≤ v276 then (if 0 < (((rdD z72 a0 v276).f0).length : Int) then (if 0 ≤ (w64 ((((rdD z72 a0 v276).f0).length : Int) - 1)) then (if (w64 ((((rdD z72 a0 v276).f0).length : Int) - 1)) < (((rdD z72 a0 v276).f0).length : Int) then (if (v275.length + 1) * 8 ≤ 140737488355328 then (spec_EndsOf.l0 kq a0 (v275 ++ [(rdD 0 ((rdD z72 a0 v276).f0) (w64 ((((rdD z72 a0 v276).f0).length : Int) - 1)))]) (w64 (v276 + 1))) else none) else none) else none) else (spec_EndsOf.l0 kq a0 v275 (w64 (v276 + 1)))) else none) else ((spec_l11Sorted.f kq v275).bind fun t277 => some t277)
def spec_EndsOf.f (k : Nat) (a0 : List S72) : Option (List Int) := spec_EndsOf.l0 k a0 ([] : List Int) 0
theorem spec_EndsOf.go : Callable Tryz.prog 155 := ⟨_, Tryz.func155, by kernel_rfl, rfl⟩
theorem spec_EndsOf.ok (k : Nat) (a0 : List S72) (r : (List Int)) (h : spec_EndsOf.f k a0 = some r) : VCalls Tryz.prog 155 [.c (R 1 e72 z72 a0)] [.c (.own 3 1 r.length (fun j => (eI .i64) (r.getD j 0)))] := by
  unfold spec_EndsOf.f at h
  refine VCalls.of (fn := Tryz.f155) (N := 38) Tryz.func155 rfl rfl (fun w0 => ?_)
  have H0 : ∀ (kq : Nat) (v275 : List Int) (v276 : Int), spec_EndsOf.l0 kq a0 v275 v276 = some r → AG Tryz.prog 155 38 [.c (.own 3 1 r.length (fun j => (eI .i64) (r.getD j 0)))] w0 (headStk (codeOf Tryz.f155) 0) (mkFS (spec_EndsOf.h0T a0 v276 v275) (spec_EndsOf.h0H a0 v276 v275)) := by
    intro kq
    induction kq with
    | zero => intro v275 v276 h; cases h
    | succ kq ih =>
      intro v275 v276 h
      rw [spec_EndsOf.l0] at h
      by_cases c854 : v276 < (a0.length : Int)
      · replace h := (if_pos c854).symm.trans h
        obtain ⟨c855, h⟩ := ifN h
        by_cases c856 : 0 < (((rdD z72 a0 v276).f0).length : Int)
        · replace h := (if_pos c856).symm.trans h
          obtain ⟨c857, h⟩ := ifN h
          obtain ⟨c858, h⟩ := ifN h
          obtain ⟨c859, h⟩ := ifN h
          exact byHead MX Tryz.func155 1000 [.b true, .b true, rowe 34 (eI .i64) 0 ([(rdD 0 ((rdD z72 a0 v276).f0) (w64 ((((rdD z72 a0 v276).f0).length : Int) - 1)))]), .aft 35, orow 320 (eI .i64) 0 (v275 ++ [(rdD 0 ((rdD z72 a0 v276).f0) (w64 ((((rdD z72 a0 v276).f0).length : Int) - 1)))]), .fin] (o1 (decide_eq_true c854) (o1 c855 (o1 c854 (o1 (decide_eq_true c856) (o1 c855 (o1 c854 (o1 c855 (o1 c854 (o1 c857 (o1 c858 (o1 (GE.lit 1 (eI .i64) 0 [(rdD 0 ((rdD z72 a0 v276).f0) (w64 ((((rdD z72 a0 v276).f0).length : Int) - 1)))] (by intro x; rfl)) (o1 c859 (o1 (GE.app (e := (eI .i64)) (d := 0) v275 ([(rdD 0 ((rdD z72 a0 v276).f0) (w64 ((((rdD z72 a0 v276).f0).length : Int) - 1)))]) rfl (fun _ _ => CE.refl _) rfl) on))))))))))))) (ih (v275 ++ [(rdD 0 ((rdD z72 a0 v276).f0) (w64 ((((rdD z72 a0 v276).f0).length : Int) - 1)))]) (w64 (v276 + 1)) h) (by kernel_rfl)
        · replace h := (if_neg c856).symm.trans h
          exact byHead MX Tryz.func155 1000 [.b true, .b false, .fin] (o1 (decide_eq_true c854) (o1 c855 (o1 c854 (o1 (decide_eq_false c856) on)))) (ih v275 (w64 (v276 + 1)) h) (by kernel_rfl)
      · replace h := (if_neg c854).symm.trans h
        obtain ⟨t277, g860, h⟩ := bindN h
        let C860 := mkCon (spec_l11Sorted.ok kq v275 t277 g860) spec_l11Sorted.go
        cases h
        exact byRet MX Tryz.func155 1000 [.b false, .fin, .call C860, .fin] (o1 (decide_eq_false c854) (oa (sc_ C860) on)) (by kernel_rfl)
  exact byHead MX Tryz.func155 1000 [rowe 5 (eI .i64) 0 ([] : List Int), .fin] (o1 (GE.lit 1 (eI .i64) 0 ([] : List Int) (by intro x; rfl)) on) (H0 k ([] : List Int) 0 h) (by kernel_rfl)

/-! ### spec_MovesOf: function 156 -/
def spec_MovesOf.h1T (a0 : List S72) (v300 : Int) (v296 : Int) (v301 : Int) : List (Nat × AV) := [(0, .t (.c (.p false (R 1 e72 z72 a0)))), (3, .t (.c (.p true (.sc (.int .i64 v300))))), (4, .t (.c (.p true (.sc (.int .i64 v296))))), (5, .t (.c (.p true (.sc (.int .i64 v301)))))]
def spec_MovesOf.h1H (a0 : List S72) (v300 : Int) (v296 : Int) (v301 : Int) : List (Nat × Content) := []
def spec_MovesOf.x1T (a0 : List S72) (y302 : Int) (v296 : Int) : List (Nat × AV) := [(0, .t (.c (.p false (R 1 e72 z72 a0)))), (3, .t (.c (.p true (.sc (.int .i64 y302))))), (4, .t (.c (.p true (.sc (.int .i64 v296)))))]
def spec_MovesOf.x1H (a0 : List S72) (y302 : Int) (v296 : Int) : List (Nat × Content) := []
def spec_MovesOf.l1 : Nat → Int → List S72 → Int → Int → Option Int
  | 0, _, _, _, _ => none
  | kq + 1, v296, a0, v300, v301 => if 0 ≤ v296 then (if v301 < (((rdD z72 a0 v296).f0).length : Int) then (if 0 ≤ v301 then (if 0 ≤ (w64 (v301 - 1)) then (if (w64 (v301 - 1)) < (((rdD z72 a0 v296).f0).length : Int) then (if (rdD 0 ((rdD z72 a0 v296).f0) v301) = (rdD 0 ((rdD z72 a0 v296).f0) (w64 (v301 - 1))) then (spec_MovesOf.l1 kq v296 a0 v300 (w64 (v301 + 1))) else (spec_MovesOf.l1 kq v296 a0 (w64 (v300 + 1)) (w64 (v301 + 1)))) else none) else none) else none) else (some v300)) else none
def spec_MovesOf.h0T (a0 : List S72) (v295 : Int) (v296 : Int) : List (Nat × AV) := [(0, .t (.c (.p false (R 1 e72 z72 a0)))), (3, .t (.c (.p true (.sc (.int .i64 v295))))), (4, .t (.c (.p true (.sc (.int .i64 v296)))))]
def spec_MovesOf.h0H (a0 : List S72) (v295 : Int) (v296 : Int) : List (Nat × Content) := []
def spec_MovesOf.l0 : Nat → List S72 → Int → Int → Option Int
  | 0, _, _, _ => none
  | kq + 1, a0, v295, v296 => if v296 < (a0.length : Int) then ((spec_MovesOf.l1 kq v296 a0 v295 1).bind fun y302 => (spec_MovesOf.l0 kq a0 y302 (w64 (v296 + 1)))) else (some v295)
def spec_MovesOf.f (k : Nat) (a0 : List S72) : Option Int := spec_MovesOf.l0 k a0 0 0
theorem spec_MovesOf.go : Callable Tryz.prog 156 := ⟨_, Tryz.func156, by kernel_rfl, rfl⟩
theorem spec_MovesOf.ok (k : Nat) (a0 : List S72) (r : Int) (h : spec_MovesOf.f k a0 = some r) : VCalls Tryz.prog 156 [.c (R 1 e72 z72 a0)] [.c (.p (.sc (.int .i64 r)))] := by
  unfold spec_MovesOf.f at h
  refine VCalls.of (fn := Tryz.f156) (N := 43) Tryz.func156 rfl rfl (fun w0 => ?_)
  have H0 : ∀ (kq : Nat) (v295 : Int) (v296 : Int), spec_MovesOf.l0 kq a0 v295 v296 = some r → AG Tryz.prog 156 43 [.c (.p (.sc (.int .i64 r)))] w0 (headStk (codeOf Tryz.f156) 0) (mkFS (spec_MovesOf.h0T a0 v295 v296) (spec_MovesOf.h0H a0 v295 v296)) := by
    intro kq
    induction kq with
    | zero => intro v295 v296 h; cases h
    | succ kq ih =>
      intro v295 v296 h
      rw [spec_MovesOf.l0] at h
      by_cases c909 : v296 < (a0.length : Int)
      · replace h := (if_pos c909).symm.trans h
        have H1 : ∀ (kq : Nat) (v300 : Int) (v301 : Int) (x : Int), spec_MovesOf.l1 kq v296 a0 v300 v301 = some x → AG Tryz.prog 156 43 [.c (.p (.sc (.int .i64 r)))] w0 (exitStk (codeOf Tryz.f156) 1) (mkFS (spec_MovesOf.x1T a0 x v296) (spec_MovesOf.x1H a0 x v296)) → AG Tryz.prog 156 43 [.c (.p (.sc (.int .i64 r)))] w0 (headStk (codeOf Tryz.f156) 1) (mkFS (spec_MovesOf.h1T a0 v300 v296 v301) (spec_MovesOf.h1H a0 v300 v296 v301)) := by
          intro kq
          induction kq with
          | zero => intro v300 v301 x h hx; cases h
          | succ kq ih =>
            intro v300 v301 x h hx
            rw [spec_MovesOf.l1] at h
            obtain ⟨c927, h⟩ := ifN h
            by_cases c928 : v301 < (((rdD z72 a0 v296).f0).length : Int)
            · replace h := (if_pos c928).symm.trans h
              obtain ⟨c929, h⟩ := ifN h
              obtain ⟨c930, h⟩ := ifN h
              obtain ⟨c931, h⟩ := ifN h
              by_cases c932 : (rdD 0 ((rdD z72 a0 v296).f0) v301) = (rdD 0 ((rdD z72 a0 v296).f0) (w64 (v301 - 1)))
              · replace h := (if_pos c932).symm.trans h
                exact byHead MX Tryz.func156 1000 [.b true, .b false, .fin] (o1 c927 (o1 c909 (o1 (decide_eq_true c928) (o1 c927 (o1 c909 (o1 c929 (o1 c928 (o1 c927 (o1 c909 (o1 c930 (o1 c931 (o1 (bnf (decide_eq_true c932)) on)))))))))))) (ih v300 (w64 (v301 + 1)) _ h hx) (by kernel_rfl)
              · replace h := (if_neg c932).symm.trans h
                exact byHead MX Tryz.func156 1000 [.b true, .b true, .fin] (o1 c927 (o1 c909 (o1 (decide_eq_true c928) (o1 c927 (o1 c909 (o1 c929 (o1 c928 (o1 c927 (o1 c909 (o1 c930 (o1 c931 (o1 (bnt (decide_eq_false c932)) on)))))))))))) (ih (w64 (v300 + 1)) (w64 (v301 + 1)) _ h hx) (by kernel_rfl)
            · replace h := (if_neg c928).symm.trans h
              cases h
              exact byStop MX Tryz.func156 1000 [.b false, .fin] (o1 c927 (o1 c909 (o1 (decide_eq_false c928) on))) hx (by kernel_rfl)
        obtain ⟨y302, g933, h⟩ := bindN h
        refine byHead MX Tryz.func156 1000 [.b true, .fin] (o1 (decide_eq_true c909) on) (H1 kq v295 1 _ g933 ?_) (by kernel_rfl)
        exact byHead MX Tryz.func156 1000 [.fin] on (ih y302 (w64 (v296 + 1)) h) (by kernel_rfl)
      · replace h := (if_neg c909).symm.trans h
        cases h
        exact byRet MX Tryz.func156 1000 [.b false, .fin, .fin] (o1 (decide_eq_false c909) on) (by kernel_rfl)
  exact byHead MX Tryz.func156 1000 [.fin] on (H0 k 0 0 h) (by kernel_rfl)
end Go.Proofs.YtoaknaceaghclaaGreat.V
