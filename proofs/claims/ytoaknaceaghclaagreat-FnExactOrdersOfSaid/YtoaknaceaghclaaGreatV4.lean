/- What each Go function computes, and that the machine does so: printed by a program of this session (avgen.py). -/
import Derived.Test.YtoaknaceaghclaaGreatV3
namespace Go.Proofs.YtoaknaceaghclaaGreat.V
open Go Go.Av Go.Proofs
set_option linter.unusedVariables false
set_option maxRecDepth 100000
/-! ### spec_PlanFault: function 84 -/
def spec_PlanFault.h1T (a2 : List Int) (v199 : Int) (a3 : S45) (v201 : Int) (a0 : S38) : List (Nat × AV) := [(2, .t (.c (.p false (R 1 (eI .i64) 0 a2)))), (4, .ptr 256 0), (7, .ptr 448 0), (9, .t (.c (.p true (.sc (.int .i64 v199))))), (10, .t (.c (.p false (R 1 (eI .i64) 0 ((rdD z72 a3.f2 v199).f0))))), (11, .t (.c (.p true (.sc (.int .i64 v201)))))]
def spec_PlanFault.h1H (a2 : List Int) (v199 : Int) (a3 : S45) (v201 : Int) (a0 : S38) : List (Nat × Content) := [(256, .box 38 [.p false (.sc (.int .i64 a0.f0)), .p false (.sc (.int .i64 a0.f1)), .p false (.sc (.string a0.f2))]), (448, .box 45 [.p false (.sc (.int .i64 a3.f0)), .p false (.sc (.int .i64 a3.f1)), .p false (R 1 e72 z72 a3.f2)])]
def spec_PlanFault.x1T (a2 : List Int) (v199 : Int) (a0 : S38) (a3 : S45) : List (Nat × AV) := [(2, .t (.c (.p false (R 1 (eI .i64) 0 a2)))), (4, .ptr 256 0), (7, .ptr 448 0), (9, .t (.c (.p true (.sc (.int .i64 v199)))))]
def spec_PlanFault.x1H (a2 : List Int) (v199 : Int) (a0 : S38) (a3 : S45) : List (Nat × Content) := [(256, .box 38 [.p false (.sc (.int .i64 a0.f0)), .p false (.sc (.int .i64 a0.f1)), .p false (.sc (.string a0.f2))]), (448, .box 45 [.p false (.sc (.int .i64 a3.f0)), .p false (.sc (.int .i64 a3.f1)), .p false (R 1 e72 z72 a3.f2)])]
def spec_PlanFault.l1 : Nat → S45 → Int → S38 → Int → Option (Int ⊕ Unit)
  | 0, _, _, _, _ => none
  | kq + 1, a3, v199, a0, v201 => if v201 < (((rdD z72 a3.f2 v199).f0).length : Int) then (if 0 ≤ v201 then ((spec_FreeAt.f kq a0 (rdD 0 ((rdD z72 a3.f2 v199).f0) v201)).bind fun t202 => if t202 = true then (if 0 < v201 then (if 0 ≤ (w64 (v201 - 1)) then (if (w64 (v201 - 1)) < (((rdD z72 a3.f2 v199).f0).length : Int) then (if (rdD 0 ((rdD z72 a3.f2 v199).f0) v201) = (rdD 0 ((rdD z72 a3.f2 v199).f0) (w64 (v201 - 1))) then (spec_PlanFault.l1 kq a3 v199 a0 (w64 (v201 + 1))) else ((spec_Beside.f kq a0 (rdD 0 ((rdD z72 a3.f2 v199).f0) (w64 (v201 - 1))) (rdD 0 ((rdD z72 a3.f2 v199).f0) v201)).bind fun t203 => if t203 = true then (spec_PlanFault.l1 kq a3 v199 a0 (w64 (v201 + 1))) else (some (.inl 3)))) else none) else none) else (spec_PlanFault.l1 kq a3 v199 a0 (w64 (v201 + 1)))) else (some (.inl 3))) else none) else (some (.inr ()))
def spec_PlanFault.h0T (a2 : List Int) (v199 : Int) (a0 : S38) (a3 : S45) : List (Nat × AV) := [(2, .t (.c (.p false (R 1 (eI .i64) 0 a2)))), (4, .ptr 256 0), (7, .ptr 448 0), (9, .t (.c (.p true (.sc (.int .i64 v199)))))]
def spec_PlanFault.h0H (a2 : List Int) (v199 : Int) (a0 : S38) (a3 : S45) : List (Nat × Content) := [(256, .box 38 [.p false (.sc (.int .i64 a0.f0)), .p false (.sc (.int .i64 a0.f1)), .p false (.sc (.string a0.f2))]), (448, .box 45 [.p false (.sc (.int .i64 a3.f0)), .p false (.sc (.int .i64 a3.f1)), .p false (R 1 e72 z72 a3.f2)])]
def spec_PlanFault.x0T (a2 : List Int) (a3 : S45) : List (Nat × AV) := [(2, .t (.c (.p false (R 1 (eI .i64) 0 a2)))), (7, .ptr 448 0)]
def spec_PlanFault.x0H (a2 : List Int) (a3 : S45) : List (Nat × Content) := [(448, .box 45 [.p false (.sc (.int .i64 a3.f0)), .p false (.sc (.int .i64 a3.f1)), .p false (R 1 e72 z72 a3.f2)])]
def spec_PlanFault.l0 : Nat → S45 → S38 → Int → Option (Int ⊕ Unit)
  | 0, _, _, _ => none
  | kq + 1, a3, a0, v199 => if v199 < (a3.f2.length : Int) then (if 0 ≤ v199 then ((spec_PlanFault.l1 kq a3 v199 a0 0).bind fun x590 => match x590 with | .inl r => some (.inl r) | .inr y204 => (spec_PlanFault.l0 kq a3 a0 (w64 (v199 + 1)))) else none) else (some (.inr ()))
def spec_PlanFault.h3T (a2 : List Int) (v260 : Int) (v264 : Int) (a3 : S45) : List (Nat × AV) := [(2, .t (.c (.p false (R 1 (eI .i64) 0 a2)))), (7, .ptr 448 0), (12, .t (.c (.p true (.sc (.int .i64 v260))))), (13, .t (.c (.p true (.sc (.int .i64 v264)))))]
def spec_PlanFault.h3H (a2 : List Int) (v260 : Int) (v264 : Int) (a3 : S45) : List (Nat × Content) := [(448, .box 45 [.p false (.sc (.int .i64 a3.f0)), .p false (.sc (.int .i64 a3.f1)), .p false (R 1 e72 z72 a3.f2)])]
def spec_PlanFault.x3T (a2 : List Int) (v260 : Int) (a3 : S45) : List (Nat × AV) := [(2, .t (.c (.p false (R 1 (eI .i64) 0 a2)))), (7, .ptr 448 0), (12, .t (.c (.p true (.sc (.int .i64 v260)))))]
def spec_PlanFault.x3H (a2 : List Int) (v260 : Int) (a3 : S45) : List (Nat × Content) := [(448, .box 45 [.p false (.sc (.int .i64 a3.f0)), .p false (.sc (.int .i64 a3.f1)), .p false (R 1 e72 z72 a3.f2)])]
def spec_PlanFault.l3 : Nat → S45 → Int → Int → Option (Int ⊕ Unit)
  | 0, _, _, _ => none
  | kq + 1, a3, v260, v264 => if v264 < a3.f0 then (if v260 = 4 then ((spec_MeetAt.f kq a3.f2 v264).bind fun t265 => if t265 = true then (some (.inl v260)) else (if v260 = 5 then ((spec_SwapsAt.f kq a3.f2 v264).bind fun t266 => if 0 < t266 then (some (.inl v260)) else (if v260 = 6 then ((spec_RingsAt.f kq a3.f2 v264).bind fun t267 => if 0 < t267 then (some (.inl v260)) else (spec_PlanFault.l3 kq a3 v260 (w64 (v264 + 1)))) else (spec_PlanFault.l3 kq a3 v260 (w64 (v264 + 1))))) else (if v260 = 6 then ((spec_RingsAt.f kq a3.f2 v264).bind fun t268 => if 0 < t268 then (some (.inl v260)) else (spec_PlanFault.l3 kq a3 v260 (w64 (v264 + 1)))) else (spec_PlanFault.l3 kq a3 v260 (w64 (v264 + 1)))))) else (if v260 = 5 then ((spec_SwapsAt.f kq a3.f2 v264).bind fun t269 => if 0 < t269 then (some (.inl v260)) else (if v260 = 6 then ((spec_RingsAt.f kq a3.f2 v264).bind fun t270 => if 0 < t270 then (some (.inl v260)) else (spec_PlanFault.l3 kq a3 v260 (w64 (v264 + 1)))) else (spec_PlanFault.l3 kq a3 v260 (w64 (v264 + 1))))) else (if v260 = 6 then ((spec_RingsAt.f kq a3.f2 v264).bind fun t271 => if 0 < t271 then (some (.inl v260)) else (spec_PlanFault.l3 kq a3 v260 (w64 (v264 + 1)))) else (spec_PlanFault.l3 kq a3 v260 (w64 (v264 + 1)))))) else (some (.inr ()))
def spec_PlanFault.h2T (a2 : List Int) (v260 : Int) (a3 : S45) : List (Nat × AV) := [(2, .t (.c (.p false (R 1 (eI .i64) 0 a2)))), (7, .ptr 448 0), (12, .t (.c (.p true (.sc (.int .i64 v260)))))]
def spec_PlanFault.h2H (a2 : List Int) (v260 : Int) (a3 : S45) : List (Nat × Content) := [(448, .box 45 [.p false (.sc (.int .i64 a3.f0)), .p false (.sc (.int .i64 a3.f1)), .p false (R 1 e72 z72 a3.f2)])]
def spec_PlanFault.x2T (a2 : List Int) (a3 : S45) : List (Nat × AV) := [(2, .t (.c (.p false (R 1 (eI .i64) 0 a2)))), (7, .ptr 448 0)]
def spec_PlanFault.x2H (a2 : List Int) (a3 : S45) : List (Nat × Content) := [(448, .box 45 [.p false (.sc (.int .i64 a3.f0)), .p false (.sc (.int .i64 a3.f1)), .p false (R 1 e72 z72 a3.f2)])]
def spec_PlanFault.l2 : Nat → S45 → Int → Option (Int ⊕ Unit)
  | 0, _, _ => none
  | kq + 1, a3, v260 => if v260 ≤ 6 then ((spec_PlanFault.l3 kq a3 v260 0).bind fun x842 => match x842 with | .inl r => some (.inl r) | .inr y272 => (spec_PlanFault.l2 kq a3 (w64 (v260 + 1)))) else (some (.inr ()))
def spec_PlanFault.h4T (a2 : List Int) (v280 : Int) (a3 : S45) (t278 : List Int) : List (Nat × AV) := [(2, .t (.c (.p false (R 1 (eI .i64) 0 a2)))), (7, .ptr 448 0), (14, .t (.c (.h 8064))), (15, .t (.c (.p true (.sc (.int .i64 v280)))))]
def spec_PlanFault.h4H (a2 : List Int) (v280 : Int) (a3 : S45) (t278 : List Int) : List (Nat × Content) := [(448, .box 45 [.p false (.sc (.int .i64 a3.f0)), .p false (.sc (.int .i64 a3.f1)), .p false (R 1 e72 z72 a3.f2)]), (8064, .row 3 1 t278.length (fun j => (eI .i64) (t278.getD j 0)) true)]
def spec_PlanFault.l4 : Nat → List Int → List Int → S45 → Int → Option Int
  | 0, _, _, _, _ => none
  | kq + 1, a2, t278, a3, v280 => if v280 < (a2.length : Int) then (if 0 ≤ v280 then ((spec_l03Has.f kq t278 (rdD 0 a2 v280)).bind fun t281 => if t281 = true then (spec_PlanFault.l4 kq a2 t278 a3 (w64 (v280 + 1))) else (some 7)) else none) else ((spec_MovesOf.f kq a3.f2).bind fun t303 => if a3.f1 = t303 then (some 0) else (some 8))
def spec_PlanFault.f (k : Nat) (a0 : S38) (a1 : List Int) (a2 : List Int) (a3 : S45) : Option Int := (spec_AskOk.f k a0 a1 a2 a3.f0).bind fun t191 => if t191 = true then ((spec_l12Form.f k a1 a3).bind fun t193 => if t193 = true then ((spec_PlanFault.l0 k a3 a0 0).bind fun x937 => match x937 with | .inl r => some r | .inr y205 => ((spec_PlanFault.l2 k a3 4).bind fun x936 => match x936 with | .inl r => some r | .inr y273 => ((spec_EndsOf.f k a3.f2).bind fun t278 => spec_PlanFault.l4 k a2 t278 a3 0))) else (some 2)) else (some 1)
theorem spec_PlanFault.go : Callable Tryz.prog 84 := ⟨_, Tryz.func84, by kernel_rfl, rfl⟩
theorem spec_PlanFault.ok (k : Nat) (a0 : S38) (a1 : List Int) (a2 : List Int) (a3 : S45) (r : Int) (h : spec_PlanFault.f k a0 a1 a2 a3 = some r) : VCalls Tryz.prog 84 [.agg (e38 a0), .c (R 1 (eI .i64) 0 a1), .c (R 1 (eI .i64) 0 a2), .agg (e45 a3)] [.c (.p (.sc (.int .i64 r)))] := by
  unfold spec_PlanFault.f at h
  refine VCalls.of (fn := Tryz.f84) (N := 146) Tryz.func84 rfl rfl (fun w0 => ?_)
  obtain ⟨t191, g537, h⟩ := bindN h
  let C537 := mkCon (spec_AskOk.ok k a0 a1 a2 a3.f0 t191 g537) spec_AskOk.go
  by_cases c538 : t191 = true
  · replace h := (if_pos c538).symm.trans h
    obtain ⟨t193, g551, h⟩ := bindN h
    let C551 := mkCon (spec_l12Form.ok k a1 a3 t193 g551) spec_l12Form.go
    by_cases c552 : t193 = true
    · replace h := (if_pos c552).symm.trans h
      have H0 : ∀ (kq : Nat) (v199 : Int) (x : (Int ⊕ Unit)), spec_PlanFault.l0 kq a3 a0 v199 = some x → (match x with | .inl r' => r' = r | .inr y205 => AG Tryz.prog 84 146 [.c (.p (.sc (.int .i64 r)))] w0 (exitStk (codeOf Tryz.f84) 0) (mkFS (spec_PlanFault.x0T a2 a3) (spec_PlanFault.x0H a2 a3))) → AG Tryz.prog 84 146 [.c (.p (.sc (.int .i64 r)))] w0 (headStk (codeOf Tryz.f84) 0) (mkFS (spec_PlanFault.h0T a2 v199 a0 a3) (spec_PlanFault.h0H a2 v199 a0 a3)) := by
        intro kq
        induction kq with
        | zero => intro v199 x h hx; cases h
        | succ kq ih =>
          intro v199 x h hx
          rw [spec_PlanFault.l0] at h
          by_cases c571 : v199 < (a3.f2.length : Int)
          · replace h := (if_pos c571).symm.trans h
            obtain ⟨c572, h⟩ := ifN h
            have H1 : ∀ (kq : Nat) (v201 : Int) (x : (Int ⊕ Unit)), spec_PlanFault.l1 kq a3 v199 a0 v201 = some x → (match x with | .inl r' => r' = r | .inr y204 => AG Tryz.prog 84 146 [.c (.p (.sc (.int .i64 r)))] w0 (exitStk (codeOf Tryz.f84) 1) (mkFS (spec_PlanFault.x1T a2 v199 a0 a3) (spec_PlanFault.x1H a2 v199 a0 a3))) → AG Tryz.prog 84 146 [.c (.p (.sc (.int .i64 r)))] w0 (headStk (codeOf Tryz.f84) 1) (mkFS (spec_PlanFault.h1T a2 v199 a3 v201 a0) (spec_PlanFault.h1H a2 v199 a3 v201 a0)) := by
              intro kq
              induction kq with
              | zero => intro v201 x h hx; cases h
              | succ kq ih =>
                intro v201 x h hx
                rw [spec_PlanFault.l1] at h
                by_cases c580 : v201 < (((rdD z72 a3.f2 v199).f0).length : Int)
                · replace h := (if_pos c580).symm.trans h
                  obtain ⟨c581, h⟩ := ifN h
                  obtain ⟨t202, g582, h⟩ := bindN h
                  let C582 := mkCon (spec_FreeAt.ok kq a0 (rdD 0 ((rdD z72 a3.f2 v199).f0) v201) t202 g582) spec_FreeAt.go
                  by_cases c583 : t202 = true
                  · replace h := (if_pos c583).symm.trans h
                    by_cases c584 : 0 < v201
                    · replace h := (if_pos c584).symm.trans h
                      obtain ⟨c585, h⟩ := ifN h
                      obtain ⟨c586, h⟩ := ifN h
                      by_cases c587 : (rdD 0 ((rdD z72 a3.f2 v199).f0) v201) = (rdD 0 ((rdD z72 a3.f2 v199).f0) (w64 (v201 - 1)))
                      · replace h := (if_pos c587).symm.trans h
                        exact byHead MX Tryz.func84 1000 [.b true, .call C582, .dec 53 false, .dec 56 true, .dec 68 false, .b false, .fin] (o1 (decide_eq_true c580) (o1 c581 (o1 c580 (oa (sc_ C582) (o1 (bnf c583) (o1 (decide_eq_true c584) (o1 c581 (o1 c580 (o1 c585 (o1 c586 (o1 (bnf (decide_eq_true c587)) (o1 (rfl : false = false) on)))))))))))) (ih (w64 (v201 + 1)) _ h hx) (by kernel_rfl)
                      · replace h := (if_neg c587).symm.trans h
                        obtain ⟨t203, g588, h⟩ := bindN h
                        let C588 := mkCon (spec_Beside.ok kq a0 (rdD 0 ((rdD z72 a3.f2 v199).f0) (w64 (v201 - 1))) (rdD 0 ((rdD z72 a3.f2 v199).f0) v201) t203 g588) spec_Beside.go
                        by_cases c589 : t203 = true
                        · replace h := (if_pos c589).symm.trans h
                          exact byHead MX Tryz.func84 1000 [.b true, .call C582, .dec 53 false, .dec 56 true, .dec 68 true, .call C588, .b false, .fin] (o1 (decide_eq_true c580) (o1 c581 (o1 c580 (oa (sc_ C582) (o1 (bnf c583) (o1 (decide_eq_true c584) (o1 c581 (o1 c580 (o1 c585 (o1 c586 (o1 (bnt (decide_eq_false c587)) (o1 c585 (o1 c586 (o1 c581 (o1 c580 (oa (sc_ C588) (o1 (bnf c589) on))))))))))))))))) (ih (w64 (v201 + 1)) _ h hx) (by kernel_rfl)
                        · replace h := (if_neg c589).symm.trans h
                          cases h
                          subst hx
                          exact byRet MX Tryz.func84 1000 [.b true, .call C582, .dec 53 false, .dec 56 true, .dec 68 true, .call C588, .b true, .fin] (o1 (decide_eq_true c580) (o1 c581 (o1 c580 (oa (sc_ C582) (o1 (bnf c583) (o1 (decide_eq_true c584) (o1 c581 (o1 c580 (o1 c585 (o1 c586 (o1 (bnt (decide_eq_false c587)) (o1 c585 (o1 c586 (o1 c581 (o1 c580 (oa (sc_ C588) (o1 (bnt (eqf c589)) on))))))))))))))))) (by kernel_rfl)
                    · replace h := (if_neg c584).symm.trans h
                      exact byHead MX Tryz.func84 1000 [.b true, .call C582, .dec 53 false, .dec 56 false, .b false, .fin] (o1 (decide_eq_true c580) (o1 c581 (o1 c580 (oa (sc_ C582) (o1 (bnf c583) (o1 (decide_eq_false c584) (o1 (rfl : false = false) on))))))) (ih (w64 (v201 + 1)) _ h hx) (by kernel_rfl)
                  · replace h := (if_neg c583).symm.trans h
                    cases h
                    subst hx
                    exact byRet MX Tryz.func84 1000 [.b true, .call C582, .dec 53 true, .b true, .fin] (o1 (decide_eq_true c580) (o1 c581 (o1 c580 (oa (sc_ C582) (o1 (bnt (eqf c583)) (o1 (rfl : true = true) on)))))) (by kernel_rfl)
                · replace h := (if_neg c580).symm.trans h
                  cases h
                  exact byStop MX Tryz.func84 1000 [.b false, .fin] (o1 (decide_eq_false c580) on) hx (by kernel_rfl)
            obtain ⟨x590, g590, h⟩ := bindN h
            cases x590 with
            | inl r' =>
              cases h
              exact byHead MX Tryz.func84 1000 [.b true, .fin] (o1 (decide_eq_true c571) (o1 c572 (o1 c571 on))) (H1 kq 0 _ g590 hx) (by kernel_rfl)
            | inr y204 =>
              refine byHead MX Tryz.func84 1000 [.b true, .fin] (o1 (decide_eq_true c571) (o1 c572 (o1 c571 on))) (H1 kq 0 _ g590 ?_) (by kernel_rfl)
              show AG Tryz.prog 84 146 [.c (.p (.sc (.int .i64 r)))] w0 (exitStk (codeOf Tryz.f84) 1) (mkFS (spec_PlanFault.x1T a2 v199 a0 a3) (spec_PlanFault.x1H a2 v199 a0 a3))
              exact byHead MX Tryz.func84 1000 [.fin] on (ih (w64 (v199 + 1)) _ h hx) (by kernel_rfl)
          · replace h := (if_neg c571).symm.trans h
            cases h
            exact byStop MX Tryz.func84 1000 [.b false, .fin] (o1 (decide_eq_false c571) on) hx (by kernel_rfl)
      obtain ⟨x937, g937, h⟩ := bindN h
      cases x937 with
      | inl r' =>
        exact byHead MX Tryz.func84 1000 [.call C537, .b false, .call C551, .b false, .fin] (oa (sc_ C537) (o1 (bnf c538) (oa (sc_ C551) (o1 (bnf c552) on)))) (H0 k 0 _ g937 (Option.some.inj h)) (by kernel_rfl)
      | inr y205 =>
        refine byHead MX Tryz.func84 1000 [.call C537, .b false, .call C551, .b false, .fin] (oa (sc_ C537) (o1 (bnf c538) (oa (sc_ C551) (o1 (bnf c552) on)))) (H0 k 0 _ g937 ?_) (by kernel_rfl)
        show AG Tryz.prog 84 146 [.c (.p (.sc (.int .i64 r)))] w0 (exitStk (codeOf Tryz.f84) 0) (mkFS (spec_PlanFault.x0T a2 a3) (spec_PlanFault.x0H a2 a3))
        have H2 : ∀ (kq : Nat) (v260 : Int) (x : (Int ⊕ Unit)), spec_PlanFault.l2 kq a3 v260 = some x → (match x with | .inl r' => r' = r | .inr y273 => AG Tryz.prog 84 146 [.c (.p (.sc (.int .i64 r)))] w0 (exitStk (codeOf Tryz.f84) 2) (mkFS (spec_PlanFault.x2T a2 a3) (spec_PlanFault.x2H a2 a3))) → AG Tryz.prog 84 146 [.c (.p (.sc (.int .i64 r)))] w0 (headStk (codeOf Tryz.f84) 2) (mkFS (spec_PlanFault.h2T a2 v260 a3) (spec_PlanFault.h2H a2 v260 a3)) := by
          intro kq
          induction kq with
          | zero => intro v260 x h hx; cases h
          | succ kq ih =>
            intro v260 x h hx
            rw [spec_PlanFault.l2] at h
            by_cases c809 : v260 ≤ 6
            · replace h := (if_pos c809).symm.trans h
              have H3 : ∀ (kq : Nat) (v264 : Int) (x : (Int ⊕ Unit)), spec_PlanFault.l3 kq a3 v260 v264 = some x → (match x with | .inl r' => r' = r | .inr y272 => AG Tryz.prog 84 146 [.c (.p (.sc (.int .i64 r)))] w0 (exitStk (codeOf Tryz.f84) 3) (mkFS (spec_PlanFault.x3T a2 v260 a3) (spec_PlanFault.x3H a2 v260 a3))) → AG Tryz.prog 84 146 [.c (.p (.sc (.int .i64 r)))] w0 (headStk (codeOf Tryz.f84) 3) (mkFS (spec_PlanFault.h3T a2 v260 v264 a3) (spec_PlanFault.h3H a2 v260 v264 a3)) := by
                intro kq
                induction kq with
                | zero => intro v264 x h hx; cases h
                | succ kq ih =>
                  intro v264 x h hx
                  rw [spec_PlanFault.l3] at h
                  by_cases c820 : v264 < a3.f0
                  · replace h := (if_pos c820).symm.trans h
                    by_cases c821 : v260 = 4
                    · replace h := (if_pos c821).symm.trans h
                      obtain ⟨t265, g822, h⟩ := bindN h
                      let C822 := mkCon (spec_MeetAt.ok kq a3.f2 v264 t265 g822) spec_MeetAt.go
                      by_cases c823 : t265 = true
                      · replace h := (if_pos c823).symm.trans h
                        cases h
                        subst hx
                        exact byRet MX Tryz.func84 1000 [.b true, .dec 95 true, .call C822, .dec 101 true, .b true, .fin] (o1 (decide_eq_true c820) (o1 (decide_eq_true c821) (oa (sc_ C822) (o1 c823 (o1 (rfl : true = true) on))))) (by kernel_rfl)
                      · replace h := (if_neg c823).symm.trans h
                        by_cases c824 : v260 = 5
                        · replace h := (if_pos c824).symm.trans h
                          obtain ⟨t266, g825, h⟩ := bindN h
                          let C825 := mkCon (spec_SwapsAt.ok kq a3.f2 v264 t266 g825) spec_SwapsAt.go
                          by_cases c826 : 0 < t266
                          · replace h := (if_pos c826).symm.trans h
                            cases h
                            subst hx
                            exact byRet MX Tryz.func84 1000 [.b true, .dec 95 true, .call C822, .dec 101 false, .dec 104 true, .call C825, .dec 112 true, .b true, .fin] (o1 (decide_eq_true c820) (o1 (decide_eq_true c821) (oa (sc_ C822) (o1 (eqf c823) (o1 (decide_eq_true c824) (oa (sc_ C825) (o1 (decide_eq_true c826) (o1 (rfl : true = true) on)))))))) (by kernel_rfl)
                          · replace h := (if_neg c826).symm.trans h
                            by_cases c827 : v260 = 6
                            · replace h := (if_pos c827).symm.trans h
                              obtain ⟨t267, g828, h⟩ := bindN h
                              let C828 := mkCon (spec_RingsAt.ok kq a3.f2 v264 t267 g828) spec_RingsAt.go
                              by_cases c829 : 0 < t267
                              · replace h := (if_pos c829).symm.trans h
                                cases h
                                subst hx
                                exact byRet MX Tryz.func84 1000 [.b true, .dec 95 true, .call C822, .dec 101 false, .dec 104 true, .call C825, .dec 112 false, .dec 115 true, .call C828, .b true, .fin] (o1 (decide_eq_true c820) (o1 (decide_eq_true c821) (oa (sc_ C822) (o1 (eqf c823) (o1 (decide_eq_true c824) (oa (sc_ C825) (o1 (decide_eq_false c826) (o1 (decide_eq_true c827) (oa (sc_ C828) (o1 (decide_eq_true c829) on)))))))))) (by kernel_rfl)
                              · replace h := (if_neg c829).symm.trans h
                                exact byHead MX Tryz.func84 1000 [.b true, .dec 95 true, .call C822, .dec 101 false, .dec 104 true, .call C825, .dec 112 false, .dec 115 true, .call C828, .b false, .fin] (o1 (decide_eq_true c820) (o1 (decide_eq_true c821) (oa (sc_ C822) (o1 (eqf c823) (o1 (decide_eq_true c824) (oa (sc_ C825) (o1 (decide_eq_false c826) (o1 (decide_eq_true c827) (oa (sc_ C828) (o1 (decide_eq_false c829) on)))))))))) (ih (w64 (v264 + 1)) _ h hx) (by kernel_rfl)
                            · replace h := (if_neg c827).symm.trans h
                              exact byHead MX Tryz.func84 1000 [.b true, .dec 95 true, .call C822, .dec 101 false, .dec 104 true, .call C825, .dec 112 false, .dec 115 false, .b false, .fin] (o1 (decide_eq_true c820) (o1 (decide_eq_true c821) (oa (sc_ C822) (o1 (eqf c823) (o1 (decide_eq_true c824) (oa (sc_ C825) (o1 (decide_eq_false c826) (o1 (decide_eq_false c827) (o1 (rfl : false = false) on))))))))) (ih (w64 (v264 + 1)) _ h hx) (by kernel_rfl)
                        · replace h := (if_neg c824).symm.trans h
                          by_cases c830 : v260 = 6
                          · replace h := (if_pos c830).symm.trans h
                            obtain ⟨t268, g831, h⟩ := bindN h
                            let C831 := mkCon (spec_RingsAt.ok kq a3.f2 v264 t268 g831) spec_RingsAt.go
                            by_cases c832 : 0 < t268
                            · replace h := (if_pos c832).symm.trans h
                              cases h
                              subst hx
                              exact byRet MX Tryz.func84 1000 [.b true, .dec 95 true, .call C822, .dec 101 false, .dec 104 false, .dec 115 true, .call C831, .b true, .fin] (o1 (decide_eq_true c820) (o1 (decide_eq_true c821) (oa (sc_ C822) (o1 (eqf c823) (o1 (decide_eq_false c824) (o1 (decide_eq_true c830) (oa (sc_ C831) (o1 (decide_eq_true c832) on)))))))) (by kernel_rfl)
                            · replace h := (if_neg c832).symm.trans h
                              exact byHead MX Tryz.func84 1000 [.b true, .dec 95 true, .call C822, .dec 101 false, .dec 104 false, .dec 115 true, .call C831, .b false, .fin] (o1 (decide_eq_true c820) (o1 (decide_eq_true c821) (oa (sc_ C822) (o1 (eqf c823) (o1 (decide_eq_false c824) (o1 (decide_eq_true c830) (oa (sc_ C831) (o1 (decide_eq_false c832) on)))))))) (ih (w64 (v264 + 1)) _ h hx) (by kernel_rfl)
                          · replace h := (if_neg c830).symm.trans h
                            exact byHead MX Tryz.func84 1000 [.b true, .dec 95 true, .call C822, .dec 101 false, .dec 104 false, .dec 115 false, .b false, .fin] (o1 (decide_eq_true c820) (o1 (decide_eq_true c821) (oa (sc_ C822) (o1 (eqf c823) (o1 (decide_eq_false c824) (o1 (decide_eq_false c830) (o1 (rfl : false = false) on))))))) (ih (w64 (v264 + 1)) _ h hx) (by kernel_rfl)
                    · replace h := (if_neg c821).symm.trans h
                      by_cases c833 : v260 = 5
                      · replace h := (if_pos c833).symm.trans h
                        obtain ⟨t269, g834, h⟩ := bindN h
                        let C834 := mkCon (spec_SwapsAt.ok kq a3.f2 v264 t269 g834) spec_SwapsAt.go
                        by_cases c835 : 0 < t269
                        · replace h := (if_pos c835).symm.trans h
                          cases h
                          subst hx
                          exact byRet MX Tryz.func84 1000 [.b true, .dec 95 false, .dec 104 true, .call C834, .dec 112 true, .b true, .fin] (o1 (decide_eq_true c820) (o1 (decide_eq_false c821) (o1 (decide_eq_true c833) (oa (sc_ C834) (o1 (decide_eq_true c835) (o1 (rfl : true = true) on)))))) (by kernel_rfl)
                        · replace h := (if_neg c835).symm.trans h
                          by_cases c836 : v260 = 6
                          · replace h := (if_pos c836).symm.trans h
                            obtain ⟨t270, g837, h⟩ := bindN h
                            let C837 := mkCon (spec_RingsAt.ok kq a3.f2 v264 t270 g837) spec_RingsAt.go
                            by_cases c838 : 0 < t270
                            · replace h := (if_pos c838).symm.trans h
                              cases h
                              subst hx
                              exact byRet MX Tryz.func84 1000 [.b true, .dec 95 false, .dec 104 true, .call C834, .dec 112 false, .dec 115 true, .call C837, .b true, .fin] (o1 (decide_eq_true c820) (o1 (decide_eq_false c821) (o1 (decide_eq_true c833) (oa (sc_ C834) (o1 (decide_eq_false c835) (o1 (decide_eq_true c836) (oa (sc_ C837) (o1 (decide_eq_true c838) on)))))))) (by kernel_rfl)
                            · replace h := (if_neg c838).symm.trans h
                              exact byHead MX Tryz.func84 1000 [.b true, .dec 95 false, .dec 104 true, .call C834, .dec 112 false, .dec 115 true, .call C837, .b false, .fin] (o1 (decide_eq_true c820) (o1 (decide_eq_false c821) (o1 (decide_eq_true c833) (oa (sc_ C834) (o1 (decide_eq_false c835) (o1 (decide_eq_true c836) (oa (sc_ C837) (o1 (decide_eq_false c838) on)))))))) (ih (w64 (v264 + 1)) _ h hx) (by kernel_rfl)
                          · replace h := (if_neg c836).symm.trans h
                            exact byHead MX Tryz.func84 1000 [.b true, .dec 95 false, .dec 104 true, .call C834, .dec 112 false, .dec 115 false, .b false, .fin] (o1 (decide_eq_true c820) (o1 (decide_eq_false c821) (o1 (decide_eq_true c833) (oa (sc_ C834) (o1 (decide_eq_false c835) (o1 (decide_eq_false c836) (o1 (rfl : false = false) on))))))) (ih (w64 (v264 + 1)) _ h hx) (by kernel_rfl)
                      · replace h := (if_neg c833).symm.trans h
                        by_cases c839 : v260 = 6
                        · replace h := (if_pos c839).symm.trans h
                          obtain ⟨t271, g840, h⟩ := bindN h
                          let C840 := mkCon (spec_RingsAt.ok kq a3.f2 v264 t271 g840) spec_RingsAt.go
                          by_cases c841 : 0 < t271
                          · replace h := (if_pos c841).symm.trans h
                            cases h
                            subst hx
                            exact byRet MX Tryz.func84 1000 [.b true, .dec 95 false, .dec 104 false, .dec 115 true, .call C840, .b true, .fin] (o1 (decide_eq_true c820) (o1 (decide_eq_false c821) (o1 (decide_eq_false c833) (o1 (decide_eq_true c839) (oa (sc_ C840) (o1 (decide_eq_true c841) on)))))) (by kernel_rfl)
                          · replace h := (if_neg c841).symm.trans h
                            exact byHead MX Tryz.func84 1000 [.b true, .dec 95 false, .dec 104 false, .dec 115 true, .call C840, .b false, .fin] (o1 (decide_eq_true c820) (o1 (decide_eq_false c821) (o1 (decide_eq_false c833) (o1 (decide_eq_true c839) (oa (sc_ C840) (o1 (decide_eq_false c841) on)))))) (ih (w64 (v264 + 1)) _ h hx) (by kernel_rfl)
                        · replace h := (if_neg c839).symm.trans h
                          exact byHead MX Tryz.func84 1000 [.b true, .dec 95 false, .dec 104 false, .dec 115 false, .b false, .fin] (o1 (decide_eq_true c820) (o1 (decide_eq_false c821) (o1 (decide_eq_false c833) (o1 (decide_eq_false c839) (o1 (rfl : false = false) on))))) (ih (w64 (v264 + 1)) _ h hx) (by kernel_rfl)
                  · replace h := (if_neg c820).symm.trans h
                    cases h
                    exact byStop MX Tryz.func84 1000 [.b false, .fin] (o1 (decide_eq_false c820) on) hx (by kernel_rfl)
              obtain ⟨x842, g842, h⟩ := bindN h
              cases x842 with
              | inl r' =>
                cases h
                exact byHead MX Tryz.func84 1000 [.b true, .fin] (o1 (decide_eq_true c809) on) (H3 kq 0 _ g842 hx) (by kernel_rfl)
              | inr y272 =>
                refine byHead MX Tryz.func84 1000 [.b true, .fin] (o1 (decide_eq_true c809) on) (H3 kq 0 _ g842 ?_) (by kernel_rfl)
                show AG Tryz.prog 84 146 [.c (.p (.sc (.int .i64 r)))] w0 (exitStk (codeOf Tryz.f84) 3) (mkFS (spec_PlanFault.x3T a2 v260 a3) (spec_PlanFault.x3H a2 v260 a3))
                exact byHead MX Tryz.func84 1000 [.fin] on (ih (w64 (v260 + 1)) _ h hx) (by kernel_rfl)
            · replace h := (if_neg c809).symm.trans h
              cases h
              exact byStop MX Tryz.func84 1000 [.b false, .fin] (o1 (decide_eq_false c809) on) hx (by kernel_rfl)
        obtain ⟨x936, g936, h⟩ := bindN h
        cases x936 with
        | inl r' =>
          exact byHead MX Tryz.func84 1000 [.fin] on (H2 k 4 _ g936 (Option.some.inj h)) (by kernel_rfl)
        | inr y273 =>
          refine byHead MX Tryz.func84 1000 [.fin] on (H2 k 4 _ g936 ?_) (by kernel_rfl)
          show AG Tryz.prog 84 146 [.c (.p (.sc (.int .i64 r)))] w0 (exitStk (codeOf Tryz.f84) 2) (mkFS (spec_PlanFault.x2T a2 a3) (spec_PlanFault.x2H a2 a3))
          obtain ⟨t278, g861, h⟩ := bindN h
          let C861 := mkCon (spec_EndsOf.ok k a3.f2 t278 g861) spec_EndsOf.go
          have H4 : ∀ (kq : Nat) (v280 : Int), spec_PlanFault.l4 kq a2 t278 a3 v280 = some r → AG Tryz.prog 84 146 [.c (.p (.sc (.int .i64 r)))] w0 (headStk (codeOf Tryz.f84) 4) (mkFS (spec_PlanFault.h4T a2 v280 a3 t278) (spec_PlanFault.h4H a2 v280 a3 t278)) := by
            intro kq
            induction kq with
            | zero => intro v280 h; cases h
            | succ kq ih =>
              intro v280 h
              rw [spec_PlanFault.l4] at h
              by_cases c865 : v280 < (a2.length : Int)
              · replace h := (if_pos c865).symm.trans h
                obtain ⟨c866, h⟩ := ifN h
                obtain ⟨t281, g867, h⟩ := bindN h
                let C867 := mkCon (spec_l03Has.ok kq t278 (rdD 0 a2 v280) t281 g867) spec_l03Has.go
                by_cases c868 : t281 = true
                · replace h := (if_pos c868).symm.trans h
                  exact byHead MX Tryz.func84 1000 [.b true, .call C867, .b false, .fin] (o1 (decide_eq_true c865) (o1 c866 (o1 c865 (oa (sc_ C867) (o1 (bnf c868) on))))) (ih (w64 (v280 + 1)) h) (by kernel_rfl)
                · replace h := (if_neg c868).symm.trans h
                  cases h
                  exact byRet MX Tryz.func84 1000 [.b true, .call C867, .b true, .fin] (o1 (decide_eq_true c865) (o1 c866 (o1 c865 (oa (sc_ C867) (o1 (bnt (eqf c868)) on))))) (by kernel_rfl)
              · replace h := (if_neg c865).symm.trans h
                obtain ⟨t303, g934, h⟩ := bindN h
                let C934 := mkCon (spec_MovesOf.ok kq a3.f2 t303 g934) spec_MovesOf.go
                by_cases c935 : a3.f1 = t303
                · replace h := (if_pos c935).symm.trans h
                  cases h
                  exact byRet MX Tryz.func84 1000 [.b false, .fin, .call C934, .b false, .fin] (o1 (decide_eq_false c865) (oa (sc_ C934) (o1 (bnf (decide_eq_true c935)) on))) (by kernel_rfl)
                · replace h := (if_neg c935).symm.trans h
                  cases h
                  exact byRet MX Tryz.func84 1000 [.b false, .fin, .call C934, .b true, .fin] (o1 (decide_eq_false c865) (oa (sc_ C934) (o1 (bnt (decide_eq_false c935)) on))) (by kernel_rfl)
          exact byHead MX Tryz.func84 1000 [.call C861, .fin] (oa (sc_ C861) on) (H4 k 0 h) (by kernel_rfl)
    · replace h := (if_neg c552).symm.trans h
      cases h
      exact byRet MX Tryz.func84 1000 [.call C537, .b false, .call C551, .b true, .fin] (oa (sc_ C537) (o1 (bnf c538) (oa (sc_ C551) (o1 (bnt (eqf c552)) on)))) (by kernel_rfl)
  · replace h := (if_neg c538).symm.trans h
    cases h
    exact byRet MX Tryz.func84 1000 [.call C537, .b true, .fin] (oa (sc_ C537) (o1 (bnt (eqf c538)) on)) (by kernel_rfl)
end Go.Proofs.YtoaknaceaghclaaGreat.V
