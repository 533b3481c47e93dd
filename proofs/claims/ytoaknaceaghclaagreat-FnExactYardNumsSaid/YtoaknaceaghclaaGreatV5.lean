/- What each Go function computes, and that the machine does so: printed by a program of this session (avgen.py). -/
import Derived.Test.YtoaknaceaghclaaGreatV4
namespace Go.Proofs.YtoaknaceaghclaaGreat.V
open Go Go.Av Go.Proofs Go.Proofs.Tryz
set_option linter.unusedVariables false
set_option maxRecDepth 100000
/-! ### laws_eqJobS: function 46 -/
def laws_eqJobS.h0T (a0 : List S74) (a1 : List S74) (v2 : Int) : List (Nat × AV) := [(0, .t (.c (.p false (R 3 e74 z74 a0)))), (1, .t (.c (.p false (R 3 e74 z74 a1)))), (5, .t (.c (.p true (iI v2))))]
def laws_eqJobS.h0H (a0 : List S74) (a1 : List S74) (v2 : Int) : List (Nat × Content) := []
def laws_eqJobS.l0 : Nat → List S74 → List S74 → Int → Option Bool
  | 0, _, _, _ => none
  | kq + 1, a0, a1, v2 => if v2 < (a0.length : Int) then (if 0 ≤ v2 then (if v2 < (a1.length : Int) then ((laws_eqJob.f (rdD z74 a0 v2) (rdD z74 a1 v2)).bind fun t3 => if t3 = true then (laws_eqJobS.l0 kq a0 a1 (w64 (v2 + 1))) else (some false)) else none) else none) else (some true)
def laws_eqJobS.f (k : Nat) (a0 : List S74) (a1 : List S74) : Option Bool := if (a0.length : Int) = (a1.length : Int) then (laws_eqJobS.l0 k a0 a1 0) else (some false)
theorem laws_eqJobS.go : Callable prog 46 := ⟨_, func46, by kernel_rfl, rfl⟩
theorem laws_eqJobS.ok (k : Nat) (a0 : List S74) (a1 : List S74) (r : Bool) (h : laws_eqJobS.f k a0 a1 = some r) : VCalls prog 46 [.c (R 3 e74 z74 a0), .c (R 3 e74 z74 a1)] [.c (.p (.sc (.bool r)))] := by
  unfold laws_eqJobS.f at h
  refine VCalls.of (fn := f46) (N := 27) func46 rfl rfl (fun w0 => ?_)
  by_cases c1 : (a0.length : Int) = (a1.length : Int)
  · replace h := ip c1 h
    have H0 : ∀ (kq : Nat) (v2 : Int), laws_eqJobS.l0 kq a0 a1 v2 = some r → AG prog 46 27 [.c (.p (.sc (.bool r)))] w0 (headStk (codeOf f46) 0) (mkFS (laws_eqJobS.h0T a0 a1 v2) (laws_eqJobS.h0H a0 a1 v2)) := by
      intro kq
      induction kq with
      | zero => intro v2 h; cases h
      | succ kq ih =>
        intro v2 h
        rw [laws_eqJobS.l0] at h
        by_cases c6 : v2 < (a0.length : Int)
        · replace h := ip c6 h
          obtain ⟨c7, h⟩ := ifN h
          obtain ⟨c8, h⟩ := ifN h
          obtain ⟨t3, g9, h⟩ := bindN h
          let C9 := mkCon (laws_eqJob.ok (rdD z74 a0 v2) (rdD z74 a1 v2) t3 g9) laws_eqJob.go
          by_cases c10 : t3 = true
          · replace h := ip c10 h
            exact hd func46 [.b true, .call C9, .b false, .fin] (oT c6 (o1 c7 (o1 c6 (o1 c7 (o1 c8 (oc C9 (o1 (bnf c10) on))))))) (ih (w64 (v2 + 1)) h)
          · replace h := iq c10 h
            cases h
            exact rt func46 [.b true, .call C9, .b true, .fin] (oT c6 (o1 c7 (o1 c6 (o1 c7 (o1 c8 (oc C9 (oN c10 on)))))))
        · replace h := iq c6 h
          cases h
          exact rt func46 [.b false, .fin, .fin] (oF c6 on)
    exact hd func46 [.b false, .fin] (o1 (bnf (decide_eq_true c1)) on) (H0 k 0 h)
  · replace h := iq c1 h
    cases h
    exact rt func46 [.b true, .fin] (o1 (bnt (decide_eq_false c1)) on)

/-! ### laws_eqYard: function 12 -/
def laws_eqYard.f (k : Nat) (a0 : S48) (a1 : S48) : Option Bool := (laws_eqSetup.f a0.f0 a1.f0).bind fun t1 => if t1 = true then ((laws_eqRobotS.f k a0.f1 a1.f1).bind fun t2 => if t2 = true then ((laws_eqWindow.f k a0.f2 a1.f2).bind fun t3 => if t3 = true then (if a0.f3 = a1.f3 then (if (a0.f4 == a1.f4) = true then ((laws_eqPlan.f k a0.f5 a1.f5).bind fun t4 => if t4 = true then ((laws_eqJobS.f k a0.f6 a1.f6).bind fun t5 => if t5 = true then ((laws_eqIntS.f k a0.f7 a1.f7).bind fun t6 => if t6 = true then (some true) else (some false)) else (some false)) else (some false)) else (some false)) else (some false)) else (some false)) else (some false)) else (some false)
theorem laws_eqYard.go : Callable prog 12 := ⟨_, func12, by kernel_rfl, rfl⟩
theorem laws_eqYard.ok (k : Nat) (a0 : S48) (a1 : S48) (r : Bool) (h : laws_eqYard.f k a0 a1 = some r) : VCalls prog 12 [.agg (e48 a0), .agg (e48 a1)] [.c (.p (.sc (.bool r)))] := by
  unfold laws_eqYard.f at h
  refine VCalls.of (fn := f12) (N := 51) func12 rfl rfl (fun w0 => ?_)
  obtain ⟨t1, g1, h⟩ := bindN h
  let C1 := mkCon (laws_eqSetup.ok a0.f0 a1.f0 t1 g1) laws_eqSetup.go
  by_cases c2 : t1 = true
  · replace h := ip c2 h
    obtain ⟨t2, g3, h⟩ := bindN h
    let C3 := mkCon (laws_eqRobotS.ok k a0.f1 a1.f1 t2 g3) laws_eqRobotS.go
    by_cases c4 : t2 = true
    · replace h := ip c4 h
      obtain ⟨t3, g5, h⟩ := bindN h
      let C5 := mkCon (laws_eqWindow.ok k a0.f2 a1.f2 t3 g5) laws_eqWindow.go
      by_cases c6 : t3 = true
      · replace h := ip c6 h
        by_cases c7 : a0.f3 = a1.f3
        · replace h := ip c7 h
          by_cases c8 : (a0.f4 == a1.f4) = true
          · replace h := ip c8 h
            obtain ⟨t4, g9, h⟩ := bindN h
            let C9 := mkCon (laws_eqPlan.ok k a0.f5 a1.f5 t4 g9) laws_eqPlan.go
            by_cases c10 : t4 = true
            · replace h := ip c10 h
              obtain ⟨t5, g11, h⟩ := bindN h
              let C11 := mkCon (laws_eqJobS.ok k a0.f6 a1.f6 t5 g11) laws_eqJobS.go
              by_cases c12 : t5 = true
              · replace h := ip c12 h
                obtain ⟨t6, g13, h⟩ := bindN h
                let C13 := mkCon (laws_eqIntS.ok k a0.f7 a1.f7 t6 g13) laws_eqIntS.go
                by_cases c14 : t6 = true
                · replace h := ip c14 h
                  cases h
                  exact rt func12 [.call C1, .b false, .call C3, .b false, .call C5, .b false, .b false, .b false, .call C9, .b false, .call C11, .b false, .call C13, .b false, .fin] (oc C1 (o1 (bnf c2) (oc C3 (o1 (bnf c4) (oc C5 (o1 (bnf c6) (o1 (bnf (decide_eq_true c7)) (o1 (bnf c8) (oc C9 (o1 (bnf c10) (oc C11 (o1 (bnf c12) (oc C13 (o1 (bnf c14) on))))))))))))))
                · replace h := iq c14 h
                  cases h
                  exact rt func12 [.call C1, .b false, .call C3, .b false, .call C5, .b false, .b false, .b false, .call C9, .b false, .call C11, .b false, .call C13, .b true, .fin] (oc C1 (o1 (bnf c2) (oc C3 (o1 (bnf c4) (oc C5 (o1 (bnf c6) (o1 (bnf (decide_eq_true c7)) (o1 (bnf c8) (oc C9 (o1 (bnf c10) (oc C11 (o1 (bnf c12) (oc C13 (oN c14 on))))))))))))))
              · replace h := iq c12 h
                cases h
                exact rt func12 [.call C1, .b false, .call C3, .b false, .call C5, .b false, .b false, .b false, .call C9, .b false, .call C11, .b true, .fin] (oc C1 (o1 (bnf c2) (oc C3 (o1 (bnf c4) (oc C5 (o1 (bnf c6) (o1 (bnf (decide_eq_true c7)) (o1 (bnf c8) (oc C9 (o1 (bnf c10) (oc C11 (oN c12 on))))))))))))
            · replace h := iq c10 h
              cases h
              exact rt func12 [.call C1, .b false, .call C3, .b false, .call C5, .b false, .b false, .b false, .call C9, .b true, .fin] (oc C1 (o1 (bnf c2) (oc C3 (o1 (bnf c4) (oc C5 (o1 (bnf c6) (o1 (bnf (decide_eq_true c7)) (o1 (bnf c8) (oc C9 (oN c10 on))))))))))
          · replace h := iq c8 h
            cases h
            exact rt func12 [.call C1, .b false, .call C3, .b false, .call C5, .b false, .b false, .b true, .fin] (oc C1 (o1 (bnf c2) (oc C3 (o1 (bnf c4) (oc C5 (o1 (bnf c6) (o1 (bnf (decide_eq_true c7)) (oN c8 on))))))))
        · replace h := iq c7 h
          cases h
          exact rt func12 [.call C1, .b false, .call C3, .b false, .call C5, .b false, .b true, .fin] (oc C1 (o1 (bnf c2) (oc C3 (o1 (bnf c4) (oc C5 (o1 (bnf c6) (o1 (bnt (decide_eq_false c7)) on)))))))
      · replace h := iq c6 h
        cases h
        exact rt func12 [.call C1, .b false, .call C3, .b false, .call C5, .b true, .fin] (oc C1 (o1 (bnf c2) (oc C3 (o1 (bnf c4) (oc C5 (oN c6 on))))))
    · replace h := iq c4 h
      cases h
      exact rt func12 [.call C1, .b false, .call C3, .b true, .fin] (oc C1 (o1 (bnf c2) (oc C3 (oN c4 on))))
  · replace h := iq c2 h
    cases h
    exact rt func12 [.call C1, .b true, .fin] (oc C1 (oN c2 on))

/-! ### laws_markRobotS: function 47 -/
def laws_markRobotS.h0T (xw : Nat → Value) (v5 : Int) (v6 : Int) (v4 : List S69) : List (Nat × AV) := [(0, .t (.c (.hv 0 (xw 0)))), (1, .t (.c (.p false (iI v5)))), (5, .t (.c (.p true (iI v6))))]
def laws_markRobotS.h0H (xw : Nat → Value) (v5 : Int) (v6 : Int) (v4 : List S69) : List (Nat × Content) := [(0, .row 69 4 v4.length (fun j => e69 (v4.getD j z69)) true)]
def laws_markRobotS.l0 : Nat → List S69 → Int → Int → Option (Int × List S69)
  | 0, _, _, _ => none
  | kq + 1, v4, v5, v6 => if v6 < (v4.length : Int) then (if 0 ≤ v6 then (laws_markRobotS.l0 kq  (v4.set v6.toNat (⟨v5, (w64 (v5 + 1)), (w64 ((w64 (v5 + 1)) + 1)), (decide (((w64 ((w64 ((w64 (v5 + 1)) + 1)) + 1)).tmod 3) = 0))⟩ : S69)) (w64 ((w64 ((w64 ((w64 (v5 + 1)) + 1)) + 1)) + 1)) (w64 (v6 + 1))) else none) else (some (v5, v4))
def laws_markRobotS.f (k : Nat) (a0 : List S69) (a1 : Int) : Option (Int × List S69) := laws_markRobotS.l0 k  a0 a1 0
theorem laws_markRobotS.go : Callable prog 47 := ⟨_, func47, by kernel_rfl, rfl⟩
def laws_markRobotS.cin (a0 : List S69) : List (Nat × Content) := [(0, .row 69 4 a0.length (fun j => e69 (a0.getD j z69)) true)]
def laws_markRobotS.cout (r : Int × List S69) : List (Nat × Content) := [(0, .row 69 4 r.2.length (fun j => e69 (r.2.getD j z69)) true)]
theorem laws_markRobotS.flat (r : Int × List S69) : ∀ p ∈ laws_markRobotS.cout r, flatP p.2 := (flatP_cons (SC.of (e := e69) (d := z69) r.2 (by intro x; rfl)) flatP_nil)
theorem laws_markRobotS.okW (k : Nat) (a0 : List S69) (a1 : Int) (r : Int × List S69) (h : laws_markRobotS.f k a0 a1 = some r) : WOk prog 47 [.t (.c (.h 0)), .t (.c (.p false (iI a1)))] (laws_markRobotS.cin a0) (laws_markRobotS.cout r) (.int .i64 r.1) := by
  unfold laws_markRobotS.f at h
  refine WOk.of (fn := f47) (N := 43) func47 rfl rfl rfl rfl rfl (laws_markRobotS.flat r) (fun w0 xw hB hQ => ?_)
  have H0 : ∀ (kq : Nat) (v4 : List S69) (v5 : Int) (v6 : Int), laws_markRobotS.l0 kq  v4 v5 v6 = some r → AG prog 47 43 [.c (.p (iI r.1))] w0 (headStk (codeOf f47) 0) (mkFS (laws_markRobotS.h0T xw v5 v6 v4) (laws_markRobotS.h0H xw v5 v6 v4)) := by
    intro kq
    induction kq with
    | zero => intro v4 v5 v6 h; cases h
    | succ kq ih =>
      intro v4 v5 v6 h
      rw [laws_markRobotS.l0] at h
      by_cases c5 : v6 < (v4.length : Int)
      · replace h := ip c5 h
        obtain ⟨c6, h⟩ := ifN h
        exact hd func47 [.b true, .aft 999999, orow 0 e69 z69 (v4.set v6.toNat (⟨v5, (rdD z69 v4 v6).f1, (rdD z69 v4 v6).f2, (rdD z69 v4 v6).f3⟩ : S69)), .aft 999999, orow 0 e69 z69 (v4.set v6.toNat (⟨v5, (w64 (v5 + 1)), (rdD z69 v4 v6).f2, (rdD z69 v4 v6).f3⟩ : S69)), .aft 999999, orow 0 e69 z69 (v4.set v6.toNat (⟨v5, (w64 (v5 + 1)), (w64 ((w64 (v5 + 1)) + 1)), (rdD z69 v4 v6).f3⟩ : S69)), .aft 999999, orow 0 e69 z69 (v4.set v6.toNat (⟨v5, (w64 (v5 + 1)), (w64 ((w64 (v5 + 1)) + 1)), (decide (((w64 ((w64 ((w64 (v5 + 1)) + 1)) + 1)).tmod 3) = 0))⟩ : S69)), .fin] (oT c5 (o1 c6 (o1 c5 (o1 (GE.set (e := e69) (d := z69) v4 v6.toNat (⟨v5, (rdD z69 v4 v6).f1, (rdD z69 v4 v6).f2, (rdD z69 v4 v6).f3⟩ : S69) (lt_toNat c6 c5) rfl) (o1 c6 (o1 (lt_set (k := v6.toNat) (v := (⟨v5, (rdD z69 v4 v6).f1, (rdD z69 v4 v6).f2, (rdD z69 v4 v6).f3⟩ : S69)) c5) (o1 (GE.set2 (e := e69) (d := z69) v4 v6.toNat (⟨v5, (rdD z69 v4 v6).f1, (rdD z69 v4 v6).f2, (rdD z69 v4 v6).f3⟩ : S69) (⟨v5, (w64 (v5 + 1)), (rdD z69 v4 v6).f2, (rdD z69 v4 v6).f3⟩ : S69) (lt_toNat c6 c5) (f := fun u => splice u 1 [.sc (.int .i64 (w64 (v5 + 1)))]) rfl) (o1 c6 (o1 (lt_set (k := v6.toNat) (v := (⟨v5, (w64 (v5 + 1)), (rdD z69 v4 v6).f2, (rdD z69 v4 v6).f3⟩ : S69)) c5) (o1 (GE.set2 (e := e69) (d := z69) v4 v6.toNat (⟨v5, (w64 (v5 + 1)), (rdD z69 v4 v6).f2, (rdD z69 v4 v6).f3⟩ : S69) (⟨v5, (w64 (v5 + 1)), (w64 ((w64 (v5 + 1)) + 1)), (rdD z69 v4 v6).f3⟩ : S69) (lt_toNat c6 c5) (f := fun u => splice u 2 [.sc (.int .i64 (w64 ((w64 (v5 + 1)) + 1)))]) rfl) (o1 (by decide : (3 : Int) ≠ 0) (o1 c6 (o1 (lt_set (k := v6.toNat) (v := (⟨v5, (w64 (v5 + 1)), (w64 ((w64 (v5 + 1)) + 1)), (rdD z69 v4 v6).f3⟩ : S69)) c5) (o1 (GE.set2 (e := e69) (d := z69) v4 v6.toNat (⟨v5, (w64 (v5 + 1)), (w64 ((w64 (v5 + 1)) + 1)), (rdD z69 v4 v6).f3⟩ : S69) (⟨v5, (w64 (v5 + 1)), (w64 ((w64 (v5 + 1)) + 1)), (decide (((w64 ((w64 ((w64 (v5 + 1)) + 1)) + 1)).tmod 3) = 0))⟩ : S69) (lt_toNat c6 c5) (f := fun u => splice u 3 [.sc (.bool (decide (((w64 ((w64 ((w64 (v5 + 1)) + 1)) + 1)).tmod 3) = 0)))]) rfl) on)))))))))))))) (ih (v4.set v6.toNat (⟨v5, (w64 (v5 + 1)), (w64 ((w64 (v5 + 1)) + 1)), (decide (((w64 ((w64 ((w64 (v5 + 1)) + 1)) + 1)).tmod 3) = 0))⟩ : S69)) (w64 ((w64 ((w64 ((w64 (v5 + 1)) + 1)) + 1)) + 1)) (w64 (v6 + 1)) h)
      · replace h := iq c5 h
        cases h
        exact byRetW MX func47 hB hQ (laws_markRobotS.flat _) (T := [(0, .t (.c (.hv 0 (xw 0))))]) rfl 1000 [.b false, .fin, .fin] (oF c5 on) (by kernel_rfl)
  exact hd func47 [.fin] on (H0 k a0 a1 0 h)
def laws_markRobotS.con (k : Nat) (a0 : List S69) (a1 : Int) (r : Int × List S69) (h : laws_markRobotS.f k a0 a1 = some r) : WCon prog := ⟨47, [.t (.c (.h 0)), .t (.c (.p false (iI a1)))], laws_markRobotS.cin a0, laws_markRobotS.cout r, .int .i64 r.1, rfl, laws_markRobotS.okW k a0 a1 r h, laws_markRobotS.go⟩

/-! ### laws_markIntS: function 14 -/
def laws_markIntS.h0T (xw : Nat → Value) (v5 : Int) (v6 : Int) (v4 : List Int) : List (Nat × AV) := [(0, .t (.c (.hv 0 (xw 0)))), (1, .t (.c (.p false (iI v5)))), (5, .t (.c (.p true (iI v6))))]
def laws_markIntS.h0H (xw : Nat → Value) (v5 : Int) (v6 : Int) (v4 : List Int) : List (Nat × Content) := [(0, .row 3 1 v4.length (fun j => (eI .i64) (v4.getD j 0)) true)]
def laws_markIntS.l0 : Nat → List Int → Int → Int → Option (Int × List Int)
  | 0, _, _, _ => none
  | kq + 1, v4, v5, v6 => if v6 < (v4.length : Int) then (if 0 ≤ v6 then (laws_markIntS.l0 kq  (v4.set v6.toNat v5) (w64 (v5 + 1)) (w64 (v6 + 1))) else none) else (some (v5, v4))
def laws_markIntS.f (k : Nat) (a0 : List Int) (a1 : Int) : Option (Int × List Int) := laws_markIntS.l0 k  a0 a1 0
theorem laws_markIntS.go : Callable prog 14 := ⟨_, func14, by kernel_rfl, rfl⟩
def laws_markIntS.cin (a0 : List Int) : List (Nat × Content) := [(0, .row 3 1 a0.length (fun j => (eI .i64) (a0.getD j 0)) true)]
def laws_markIntS.cout (r : Int × List Int) : List (Nat × Content) := [(0, .row 3 1 r.2.length (fun j => (eI .i64) (r.2.getD j 0)) true)]
theorem laws_markIntS.flat (r : Int × List Int) : ∀ p ∈ laws_markIntS.cout r, flatP p.2 := (flatP_cons (SC.of (e := (eI .i64)) (d := 0) r.2 (by intro x; rfl)) flatP_nil)
theorem laws_markIntS.okW (k : Nat) (a0 : List Int) (a1 : Int) (r : Int × List Int) (h : laws_markIntS.f k a0 a1 = some r) : WOk prog 14 [.t (.c (.h 0)), .t (.c (.p false (iI a1)))] (laws_markIntS.cin a0) (laws_markIntS.cout r) (.int .i64 r.1) := by
  unfold laws_markIntS.f at h
  refine WOk.of (fn := f14) (N := 19) func14 rfl rfl rfl rfl rfl (laws_markIntS.flat r) (fun w0 xw hB hQ => ?_)
  have H0 : ∀ (kq : Nat) (v4 : List Int) (v5 : Int) (v6 : Int), laws_markIntS.l0 kq  v4 v5 v6 = some r → AG prog 14 19 [.c (.p (iI r.1))] w0 (headStk (codeOf f14) 0) (mkFS (laws_markIntS.h0T xw v5 v6 v4) (laws_markIntS.h0H xw v5 v6 v4)) := by
    intro kq
    induction kq with
    | zero => intro v4 v5 v6 h; cases h
    | succ kq ih =>
      intro v4 v5 v6 h
      rw [laws_markIntS.l0] at h
      by_cases c5 : v6 < (v4.length : Int)
      · replace h := ip c5 h
        obtain ⟨c6, h⟩ := ifN h
        exact hd func14 [.b true, .aft 999999, orow 0 (eI .i64) 0 (v4.set v6.toNat v5), .fin] (oT c5 (o1 c6 (o1 c5 (o1 (GE.set (e := (eI .i64)) (d := 0) v4 v6.toNat v5 (lt_toNat c6 c5) rfl) on)))) (ih (v4.set v6.toNat v5) (w64 (v5 + 1)) (w64 (v6 + 1)) h)
      · replace h := iq c5 h
        cases h
        exact byRetW MX func14 hB hQ (laws_markIntS.flat _) (T := [(0, .t (.c (.hv 0 (xw 0))))]) rfl 1000 [.b false, .fin, .fin] (oF c5 on) (by kernel_rfl)
  exact hd func14 [.fin] on (H0 k a0 a1 0 h)
def laws_markIntS.con (k : Nat) (a0 : List Int) (a1 : Int) (r : Int × List Int) (h : laws_markIntS.f k a0 a1 = some r) : WCon prog := ⟨14, [.t (.c (.h 0)), .t (.c (.p false (iI a1)))], laws_markIntS.cin a0, laws_markIntS.cout r, .int .i64 r.1, rfl, laws_markIntS.okW k a0 a1 r h, laws_markIntS.go⟩

/-! ### laws_markWindow: function 48 -/
def laws_markWindow.f (k : Nat) (a0 : S42) (a1 : Int) : Option (Int × List Int) := (laws_markIntS.f k a0.f2 a1).bind fun t1 => some (t1.1, t1.2)
theorem laws_markWindow.go : Callable prog 48 := ⟨_, func48, by kernel_rfl, rfl⟩
def laws_markWindow.cin (a0 : S42) : List (Nat × Content) := [(2, .row 3 1 a0.f2.length (fun j => (eI .i64) (a0.f2.getD j 0)) true)]
def laws_markWindow.cout (r : Int × List Int) : List (Nat × Content) := [(2, .row 3 1 r.2.length (fun j => (eI .i64) (r.2.getD j 0)) true)]
theorem laws_markWindow.flat (r : Int × List Int) : ∀ p ∈ laws_markWindow.cout r, flatP p.2 := (flatP_cons (SC.of (e := (eI .i64)) (d := 0) r.2 (by intro x; rfl)) flatP_nil)
theorem laws_markWindow.okW (k : Nat) (a0 : S42) (a1 : Int) (r : Int × List Int) (h : laws_markWindow.f k a0 a1 = some r) : WOk prog 48 [.t (.agg [.p false (iI a0.f0), .p false (iI a0.f1), .h 2]), .t (.c (.p false (iI a1)))] (laws_markWindow.cin a0) (laws_markWindow.cout r) (.int .i64 r.1) := by
  unfold laws_markWindow.f at h
  refine WOk.of (fn := f48) (N := 10) func48 rfl rfl rfl rfl rfl (laws_markWindow.flat r) (fun w0 xw hB hQ => ?_)
  obtain ⟨t1, g1, h⟩ := bindN h
  let C1 := laws_markIntS.con k a0.f2 a1 t1 g1
  cases h
  exact byRetW MX func48 hB hQ (laws_markWindow.flat _) (T := [(0, .t (.agg [.p false (iI a0.f0), .p false (iI a0.f1), .hv 2 (xw 2)]))]) rfl 1000 [.callW C1 [(0, 2)], .fin] (oa (scw_ C1) on) (by kernel_rfl)
def laws_markWindow.con (k : Nat) (a0 : S42) (a1 : Int) (r : Int × List Int) (h : laws_markWindow.f k a0 a1 = some r) : WCon prog := ⟨48, [.t (.agg [.p false (iI a0.f0), .p false (iI a0.f1), .h 2]), .t (.c (.p false (iI a1)))], laws_markWindow.cin a0, laws_markWindow.cout r, .int .i64 r.1, rfl, laws_markWindow.okW k a0 a1 r h, laws_markWindow.go⟩

/-! ### laws_markWayS: function 110 -/
def laws_markWayS.h0T (xw : Nat → Value) (v8 : Int) (v9 : Int) (v7 : List S72) : List (Nat × AV) := [(0, .t (.c (.hv 0 (xw 0)))), (1, .t (.c (.p false (iI v8)))), (5, .t (.c (.p true (iI v9))))]
def laws_markWayS.h0H (xw : Nat → Value) (v8 : Int) (v9 : Int) (v7 : List S72) : List (Nat × Content) := [(0, NC 72 3 S72.f0 (Value.int .i64) z72 0 v7)]
def laws_markWayS.l0 : Nat → List S72 → Int → Int → Option (Int × List S72)
  | 0, _, _, _ => none
  | kq + 1, v7, v8, v9 => if v9 < (v7.length : Int) then (if 0 ≤ v9 then ((laws_markIntS.f kq ((v7.getD v9.toNat z72).f0) v8).bind fun t10 => laws_markWayS.l0 kq  (v7.set v9.toNat (⟨t10.2⟩ : S72)) t10.1 (w64 (v9 + 1))) else none) else (some (v8, v7))
def laws_markWayS.f (k : Nat) (a0 : List S72) (a1 : Int) : Option (Int × List S72) := laws_markWayS.l0 k  a0 a1 0
theorem laws_markWayS.go : Callable prog 110 := ⟨_, func110, by kernel_rfl, rfl⟩
def laws_markWayS.cin (a0 : List S72) : List (Nat × Content) := [(0, NC 72 3 S72.f0 (Value.int .i64) z72 0 a0)]
def laws_markWayS.cout (r : Int × List S72) : List (Nat × Content) := [(0, NC 72 3 S72.f0 (Value.int .i64) z72 0 r.2)]
theorem laws_markWayS.flat (r : Int × List S72) : ∀ p ∈ laws_markWayS.cout r, flatP p.2 := (flatP_cons trivial flatP_nil)
theorem laws_markWayS.okW (k : Nat) (a0 : List S72) (a1 : Int) (r : Int × List S72) (h : laws_markWayS.f k a0 a1 = some r) : WOk prog 110 [.t (.c (.hn 0)), .t (.c (.p false (iI a1)))] (laws_markWayS.cin a0) (laws_markWayS.cout r) (.int .i64 r.1) := by
  unfold laws_markWayS.f at h
  refine WOk.of (fn := f110) (N := 20) func110 rfl rfl rfl rfl rfl (laws_markWayS.flat r) (fun w0 xw hB hQ => ?_)
  have H0 : ∀ (kq : Nat) (v7 : List S72) (v8 : Int) (v9 : Int), laws_markWayS.l0 kq  v7 v8 v9 = some r → AG prog 110 20 [.c (.p (iI r.1))] w0 (headStk (codeOf f110) 0) (mkFS (laws_markWayS.h0T xw v8 v9 v7) (laws_markWayS.h0H xw v8 v9 v7)) := by
    intro kq
    induction kq with
    | zero => intro v7 v8 v9 h; cases h
    | succ kq ih =>
      intro v7 v8 v9 h
      rw [laws_markWayS.l0] at h
      by_cases c8 : v9 < (v7.length : Int)
      · replace h := ip c8 h
        obtain ⟨c9, h⟩ := ifN h
        obtain ⟨t10, g10, h⟩ := bindN h
        let C10 := laws_markIntS.con kq ((v7.getD v9.toNat z72).f0) v8 t10 g10
        exact hd func110 [.b true, .callI C10, .aft 18, nrow 0 S72.f0 (Value.int .i64) z72 0 (v7.set v9.toNat (⟨t10.2⟩ : S72)), .fin] (oT c8 (o1 c9 (o1 c8 (o1 (rfl : C10.f = C10.f) (o1 (rfl : List.length ((v7.getD v9.toNat z72).f0) = List.length ((v7.getD v9.toNat z72).f0)) (o1 (innerEq (Value.int .i64) 0 ((v7.getD v9.toNat z72).f0)) (o1 (SC.of (e := (eI .i64)) (d := 0) t10.2 (by intro x; rfl)) (o1 (VE.refl (iI v8)) (o1 (GEN.set S72.f0 (Value.int .i64) z72 0 v7 v9.toNat (⟨t10.2⟩ : S72) (lt_toNat c9 c8) rfl (fun _ => rfl)) on))))))))) (ih (v7.set v9.toNat (⟨t10.2⟩ : S72)) t10.1 (w64 (v9 + 1)) h)
      · replace h := iq c8 h
        cases h
        exact byRetW MX func110 hB hQ (laws_markWayS.flat _) (T := [(0, .t (.c (.hv 0 (xw 0))))]) rfl 1000 [.b false, .fin, .fin] (oF c8 on) (by kernel_rfl)
  exact hd func110 [.fin] on (H0 k a0 a1 0 h)
def laws_markWayS.con (k : Nat) (a0 : List S72) (a1 : Int) (r : Int × List S72) (h : laws_markWayS.f k a0 a1 = some r) : WCon prog := ⟨110, [.t (.c (.hn 0)), .t (.c (.p false (iI a1)))], laws_markWayS.cin a0, laws_markWayS.cout r, .int .i64 r.1, rfl, laws_markWayS.okW k a0 a1 r h, laws_markWayS.go⟩

/-! ### laws_markPlan: function 49 -/
def laws_markPlan.f (k : Nat) (a0 : S45) (a1 : Int) : Option (Int × List S72) := (laws_markWayS.f k a0.f2 a1).bind fun t1 => some (t1.1, t1.2)
theorem laws_markPlan.go : Callable prog 49 := ⟨_, func49, by kernel_rfl, rfl⟩
def laws_markPlan.cin (a0 : S45) : List (Nat × Content) := [(2, NC 72 3 S72.f0 (Value.int .i64) z72 0 a0.f2)]
def laws_markPlan.cout (r : Int × List S72) : List (Nat × Content) := [(2, NC 72 3 S72.f0 (Value.int .i64) z72 0 r.2)]
theorem laws_markPlan.flat (r : Int × List S72) : ∀ p ∈ laws_markPlan.cout r, flatP p.2 := (flatP_cons trivial flatP_nil)
theorem laws_markPlan.okW (k : Nat) (a0 : S45) (a1 : Int) (r : Int × List S72) (h : laws_markPlan.f k a0 a1 = some r) : WOk prog 49 [.t (.agg [.p false (iI a0.f0), .p false (iI a0.f1), .hn 2]), .t (.c (.p false (iI a1)))] (laws_markPlan.cin a0) (laws_markPlan.cout r) (.int .i64 r.1) := by
  unfold laws_markPlan.f at h
  refine WOk.of (fn := f49) (N := 10) func49 rfl rfl rfl rfl rfl (laws_markPlan.flat r) (fun w0 xw hB hQ => ?_)
  obtain ⟨t1, g1, h⟩ := bindN h
  let C1 := laws_markWayS.con k a0.f2 a1 t1 g1
  cases h
  exact byRetW MX func49 hB hQ (laws_markPlan.flat _) (T := [(0, .t (.agg [.p false (iI a0.f0), .p false (iI a0.f1), .hv 2 (xw 2)]))]) rfl 1000 [.callW C1 [(0, 2)], .fin] (oa (scw_ C1) on) (by kernel_rfl)
def laws_markPlan.con (k : Nat) (a0 : S45) (a1 : Int) (r : Int × List S72) (h : laws_markPlan.f k a0 a1 = some r) : WCon prog := ⟨49, [.t (.agg [.p false (iI a0.f0), .p false (iI a0.f1), .hn 2]), .t (.c (.p false (iI a1)))], laws_markPlan.cin a0, laws_markPlan.cout r, .int .i64 r.1, rfl, laws_markPlan.okW k a0 a1 r h, laws_markPlan.go⟩

/-! ### laws_markJobS: function 50 -/
def laws_markJobS.h0T (xw : Nat → Value) (v5 : Int) (v6 : Int) (v4 : List S74) : List (Nat × AV) := [(0, .t (.c (.hv 0 (xw 0)))), (1, .t (.c (.p false (iI v5)))), (5, .t (.c (.p true (iI v6))))]
def laws_markJobS.h0H (xw : Nat → Value) (v5 : Int) (v6 : Int) (v4 : List S74) : List (Nat × Content) := [(0, .row 74 3 v4.length (fun j => e74 (v4.getD j z74)) true)]
def laws_markJobS.l0 : Nat → List S74 → Int → Int → Option (Int × List S74)
  | 0, _, _, _ => none
  | kq + 1, v4, v5, v6 => if v6 < (v4.length : Int) then (if 0 ≤ v6 then (laws_markJobS.l0 kq  (v4.set v6.toNat (⟨v5, (w64 (v5 + 1)), (decide (((w64 ((w64 (v5 + 1)) + 1)).tmod 3) = 0))⟩ : S74)) (w64 ((w64 ((w64 (v5 + 1)) + 1)) + 1)) (w64 (v6 + 1))) else none) else (some (v5, v4))
def laws_markJobS.f (k : Nat) (a0 : List S74) (a1 : Int) : Option (Int × List S74) := laws_markJobS.l0 k  a0 a1 0
theorem laws_markJobS.go : Callable prog 50 := ⟨_, func50, by kernel_rfl, rfl⟩
def laws_markJobS.cin (a0 : List S74) : List (Nat × Content) := [(0, .row 74 3 a0.length (fun j => e74 (a0.getD j z74)) true)]
def laws_markJobS.cout (r : Int × List S74) : List (Nat × Content) := [(0, .row 74 3 r.2.length (fun j => e74 (r.2.getD j z74)) true)]
theorem laws_markJobS.flat (r : Int × List S74) : ∀ p ∈ laws_markJobS.cout r, flatP p.2 := (flatP_cons (SC.of (e := e74) (d := z74) r.2 (by intro x; rfl)) flatP_nil)
theorem laws_markJobS.okW (k : Nat) (a0 : List S74) (a1 : Int) (r : Int × List S74) (h : laws_markJobS.f k a0 a1 = some r) : WOk prog 50 [.t (.c (.h 0)), .t (.c (.p false (iI a1)))] (laws_markJobS.cin a0) (laws_markJobS.cout r) (.int .i64 r.1) := by
  unfold laws_markJobS.f at h
  refine WOk.of (fn := f50) (N := 36) func50 rfl rfl rfl rfl rfl (laws_markJobS.flat r) (fun w0 xw hB hQ => ?_)
  have H0 : ∀ (kq : Nat) (v4 : List S74) (v5 : Int) (v6 : Int), laws_markJobS.l0 kq  v4 v5 v6 = some r → AG prog 50 36 [.c (.p (iI r.1))] w0 (headStk (codeOf f50) 0) (mkFS (laws_markJobS.h0T xw v5 v6 v4) (laws_markJobS.h0H xw v5 v6 v4)) := by
    intro kq
    induction kq with
    | zero => intro v4 v5 v6 h; cases h
    | succ kq ih =>
      intro v4 v5 v6 h
      rw [laws_markJobS.l0] at h
      by_cases c5 : v6 < (v4.length : Int)
      · replace h := ip c5 h
        obtain ⟨c6, h⟩ := ifN h
        exact hd func50 [.b true, .aft 999999, orow 0 e74 z74 (v4.set v6.toNat (⟨v5, (rdD z74 v4 v6).f1, (rdD z74 v4 v6).f2⟩ : S74)), .aft 999999, orow 0 e74 z74 (v4.set v6.toNat (⟨v5, (w64 (v5 + 1)), (rdD z74 v4 v6).f2⟩ : S74)), .aft 999999, orow 0 e74 z74 (v4.set v6.toNat (⟨v5, (w64 (v5 + 1)), (decide (((w64 ((w64 (v5 + 1)) + 1)).tmod 3) = 0))⟩ : S74)), .fin] (oT c5 (o1 c6 (o1 c5 (o1 (GE.set (e := e74) (d := z74) v4 v6.toNat (⟨v5, (rdD z74 v4 v6).f1, (rdD z74 v4 v6).f2⟩ : S74) (lt_toNat c6 c5) rfl) (o1 c6 (o1 (lt_set (k := v6.toNat) (v := (⟨v5, (rdD z74 v4 v6).f1, (rdD z74 v4 v6).f2⟩ : S74)) c5) (o1 (GE.set2 (e := e74) (d := z74) v4 v6.toNat (⟨v5, (rdD z74 v4 v6).f1, (rdD z74 v4 v6).f2⟩ : S74) (⟨v5, (w64 (v5 + 1)), (rdD z74 v4 v6).f2⟩ : S74) (lt_toNat c6 c5) (f := fun u => splice u 1 [.sc (.int .i64 (w64 (v5 + 1)))]) rfl) (o1 (by decide : (3 : Int) ≠ 0) (o1 c6 (o1 (lt_set (k := v6.toNat) (v := (⟨v5, (w64 (v5 + 1)), (rdD z74 v4 v6).f2⟩ : S74)) c5) (o1 (GE.set2 (e := e74) (d := z74) v4 v6.toNat (⟨v5, (w64 (v5 + 1)), (rdD z74 v4 v6).f2⟩ : S74) (⟨v5, (w64 (v5 + 1)), (decide (((w64 ((w64 (v5 + 1)) + 1)).tmod 3) = 0))⟩ : S74) (lt_toNat c6 c5) (f := fun u => splice u 2 [.sc (.bool (decide (((w64 ((w64 (v5 + 1)) + 1)).tmod 3) = 0)))]) rfl) on))))))))))) (ih (v4.set v6.toNat (⟨v5, (w64 (v5 + 1)), (decide (((w64 ((w64 (v5 + 1)) + 1)).tmod 3) = 0))⟩ : S74)) (w64 ((w64 ((w64 (v5 + 1)) + 1)) + 1)) (w64 (v6 + 1)) h)
      · replace h := iq c5 h
        cases h
        exact byRetW MX func50 hB hQ (laws_markJobS.flat _) (T := [(0, .t (.c (.hv 0 (xw 0))))]) rfl 1000 [.b false, .fin, .fin] (oF c5 on) (by kernel_rfl)
  exact hd func50 [.fin] on (H0 k a0 a1 0 h)
def laws_markJobS.con (k : Nat) (a0 : List S74) (a1 : Int) (r : Int × List S74) (h : laws_markJobS.f k a0 a1 = some r) : WCon prog := ⟨50, [.t (.c (.h 0)), .t (.c (.p false (iI a1)))], laws_markJobS.cin a0, laws_markJobS.cout r, .int .i64 r.1, rfl, laws_markJobS.okW k a0 a1 r h, laws_markJobS.go⟩

/-! ### laws_markYard: function 13 -/
def laws_markYard.f (k : Nat) (a0 : S48) (a1 : Int) : Option (Int × List S69 × List Int × List S72 × List S74 × List Int) := (laws_markRobotS.f k a0.f1 a1).bind fun t1 => (laws_markWindow.f k a0.f2 t1.1).bind fun t2 => (laws_markPlan.f k a0.f5 t2.1).bind fun t3 => (laws_markJobS.f k a0.f6 t3.1).bind fun t4 => (laws_markIntS.f k a0.f7 t4.1).bind fun t5 => some (t5.1, t1.2, t2.2, t3.2, t4.2, t5.2)
theorem laws_markYard.go : Callable prog 13 := ⟨_, func13, by kernel_rfl, rfl⟩
def laws_markYard.cin (a0 : S48) : List (Nat × Content) := [(7, .row 69 4 a0.f1.length (fun j => e69 (a0.f1.getD j z69)) true), (10, .row 3 1 a0.f2.f2.length (fun j => (eI .i64) (a0.f2.f2.getD j 0)) true), (15, NC 72 3 S72.f0 (Value.int .i64) z72 0 a0.f5.f2), (16, .row 74 3 a0.f6.length (fun j => e74 (a0.f6.getD j z74)) true), (17, .row 3 1 a0.f7.length (fun j => (eI .i64) (a0.f7.getD j 0)) true)]
def laws_markYard.cout (r : Int × List S69 × List Int × List S72 × List S74 × List Int) : List (Nat × Content) := [(7, .row 69 4 r.2.1.length (fun j => e69 (r.2.1.getD j z69)) true), (10, .row 3 1 r.2.2.1.length (fun j => (eI .i64) (r.2.2.1.getD j 0)) true), (15, NC 72 3 S72.f0 (Value.int .i64) z72 0 r.2.2.2.1), (16, .row 74 3 r.2.2.2.2.1.length (fun j => e74 (r.2.2.2.2.1.getD j z74)) true), (17, .row 3 1 r.2.2.2.2.2.length (fun j => (eI .i64) (r.2.2.2.2.2.getD j 0)) true)]
theorem laws_markYard.flat (r : Int × List S69 × List Int × List S72 × List S74 × List Int) : ∀ p ∈ laws_markYard.cout r, flatP p.2 := (flatP_cons (SC.of (e := e69) (d := z69) r.2.1 (by intro x; rfl)) (flatP_cons (SC.of (e := (eI .i64)) (d := 0) r.2.2.1 (by intro x; rfl)) (flatP_cons trivial (flatP_cons (SC.of (e := e74) (d := z74) r.2.2.2.2.1 (by intro x; rfl)) (flatP_cons (SC.of (e := (eI .i64)) (d := 0) r.2.2.2.2.2 (by intro x; rfl)) flatP_nil)))))
theorem laws_markYard.okW (k : Nat) (a0 : S48) (a1 : Int) (r : Int × List S69 × List Int × List S72 × List S74 × List Int) (h : laws_markYard.f k a0 a1 = some r) : WOk prog 13 [.t (.agg [.p false (iI a0.f0.f0.f0), .p false (iI a0.f0.f0.f1), .p false (.sc (.string a0.f0.f0.f2)), .p false (iI a0.f0.f1), .p false (iI a0.f0.f2), .p false (iI a0.f0.f3), .p false (iI a0.f0.f4), .h 7, .p false (iI a0.f2.f0), .p false (iI a0.f2.f1), .h 10, .p false (iI a0.f3), .p false (.sc (.bool a0.f4)), .p false (iI a0.f5.f0), .p false (iI a0.f5.f1), .hn 15, .h 16, .h 17]), .t (.c (.p false (iI a1)))] (laws_markYard.cin a0) (laws_markYard.cout r) (.int .i64 r.1) := by
  unfold laws_markYard.f at h
  refine WOk.of (fn := f13) (N := 26) func13 rfl rfl rfl rfl rfl (laws_markYard.flat r) (fun w0 xw hB hQ => ?_)
  obtain ⟨t1, g1, h⟩ := bindN h
  let C1 := laws_markRobotS.con k a0.f1 a1 t1 g1
  obtain ⟨t2, g2, h⟩ := bindN h
  let C2 := laws_markWindow.con k a0.f2 t1.1 t2 g2
  obtain ⟨t3, g3, h⟩ := bindN h
  let C3 := laws_markPlan.con k a0.f5 t2.1 t3 g3
  obtain ⟨t4, g4, h⟩ := bindN h
  let C4 := laws_markJobS.con k a0.f6 t3.1 t4 g4
  obtain ⟨t5, g5, h⟩ := bindN h
  let C5 := laws_markIntS.con k a0.f7 t4.1 t5 g5
  cases h
  exact byRetW MX func13 hB hQ (laws_markYard.flat _) (T := [(0, .t (.agg [.p false (iI a0.f0.f0.f0), .p false (iI a0.f0.f0.f1), .p false (.sc (.string a0.f0.f0.f2)), .p false (iI a0.f0.f1), .p false (iI a0.f0.f2), .p false (iI a0.f0.f3), .p false (iI a0.f0.f4), .hv 7 (xw 7), .p false (iI a0.f2.f0), .p false (iI a0.f2.f1), .hv 10 (xw 10), .p false (iI a0.f3), .p false (.sc (.bool a0.f4)), .p false (iI a0.f5.f0), .p false (iI a0.f5.f1), .hv 15 (xw 15), .hv 16 (xw 16), .hv 17 (xw 17)]))]) rfl 1000 [.callW C1 [(0, 7)], .callW C2 [(2, 10)], .callW C3 [(2, 15)], .callW C4 [(0, 16)], .callW C5 [(0, 17)], .fin] (oa (scw_ C1) (oa (scw_ C2) (oa (scw_ C3) (oa (scw_ C4) (oa (scw_ C5) on))))) (by kernel_rfl)
def laws_markYard.con (k : Nat) (a0 : S48) (a1 : Int) (r : Int × List S69 × List Int × List S72 × List S74 × List Int) (h : laws_markYard.f k a0 a1 = some r) : WCon prog := ⟨13, [.t (.agg [.p false (iI a0.f0.f0.f0), .p false (iI a0.f0.f0.f1), .p false (.sc (.string a0.f0.f0.f2)), .p false (iI a0.f0.f1), .p false (iI a0.f0.f2), .p false (iI a0.f0.f3), .p false (iI a0.f0.f4), .h 7, .p false (iI a0.f2.f0), .p false (iI a0.f2.f1), .h 10, .p false (iI a0.f3), .p false (.sc (.bool a0.f4)), .p false (iI a0.f5.f0), .p false (iI a0.f5.f1), .hn 15, .h 16, .h 17]), .t (.c (.p false (iI a1)))], laws_markYard.cin a0, laws_markYard.cout r, .int .i64 r.1, rfl, laws_markYard.okW k a0 a1 r h, laws_markYard.go⟩

/-! ### laws_heldIntS: function 15 -/
def laws_heldIntS.h0T (a0 : List Int) (v2 : Int) (v3 : Int) : List (Nat × AV) := [(0, .t (.c (.p false (R 1 (eI .i64) 0 a0)))), (1, .t (.c (.p false (iI v2)))), (5, .t (.c (.p true (iI v3))))]
def laws_heldIntS.h0H (a0 : List Int) (v2 : Int) (v3 : Int) : List (Nat × Content) := []
def laws_heldIntS.l0 : Nat → List Int → Int → Int → Option Int
  | 0, _, _, _ => none
  | kq + 1, a0, v2, v3 => if v3 < (a0.length : Int) then (if 0 ≤ v3 then (if (rdD 0 a0 v3) = v2 then (laws_heldIntS.l0 kq a0 (w64 (v2 + 1)) (w64 (v3 + 1))) else (some (-1))) else none) else (some v2)
def laws_heldIntS.f (k : Nat) (a0 : List Int) (a1 : Int) : Option Int := laws_heldIntS.l0 k a0 a1 0
theorem laws_heldIntS.go : Callable prog 15 := ⟨_, func15, by kernel_rfl, rfl⟩
theorem laws_heldIntS.ok (k : Nat) (a0 : List Int) (a1 : Int) (r : Int) (h : laws_heldIntS.f k a0 a1 = some r) : VCalls prog 15 [.c (R 1 (eI .i64) 0 a0), .c (iI a1)] [.c (.p (iI r))] := by
  unfold laws_heldIntS.f at h
  refine VCalls.of (fn := f15) (N := 21) func15 rfl rfl (fun w0 => ?_)
  have H0 : ∀ (kq : Nat) (v2 : Int) (v3 : Int), laws_heldIntS.l0 kq a0 v2 v3 = some r → AG prog 15 21 [.c (.p (iI r))] w0 (headStk (codeOf f15) 0) (mkFS (laws_heldIntS.h0T a0 v2 v3) (laws_heldIntS.h0H a0 v2 v3)) := by
    intro kq
    induction kq with
    | zero => intro v2 v3 h; cases h
    | succ kq ih =>
      intro v2 v3 h
      rw [laws_heldIntS.l0] at h
      by_cases c5 : v3 < (a0.length : Int)
      · replace h := ip c5 h
        obtain ⟨c6, h⟩ := ifN h
        by_cases c7 : (rdD 0 a0 v3) = v2
        · replace h := ip c7 h
          exact hd func15 [.b true, .b false, .fin] (oT c5 (o1 c6 (o1 c5 (o1 (bnf (decide_eq_true c7)) on)))) (ih (w64 (v2 + 1)) (w64 (v3 + 1)) h)
        · replace h := iq c7 h
          cases h
          exact rt func15 [.b true, .b true, .fin] (oT c5 (o1 c6 (o1 c5 (o1 (bnt (decide_eq_false c7)) on))))
      · replace h := iq c5 h
        cases h
        exact rt func15 [.b false, .fin, .fin] (oF c5 on)
  exact hd func15 [.fin] on (H0 k a1 0 h)

/-! ### laws_FnExactYardNums: function 3 -/
def laws_FnExactYardNums.f (k : Nat) (a0 : S35) : Option Bool := (laws_szYard.f k a0 1048576).bind fun t1 => if t1 < 0 then (some true) else ((laws_toYard.f k a0).bind fun t2 => (spec_YardNums.f k t2).bind fun t3 => (laws_toYard.f k a0).bind fun t4 => (impl_YardNums.f k t4).bind fun t5 => (laws_eqIntS.f k t5 t3).bind fun t6 => if t6 = true then ((laws_toYard.f k a0).bind fun t7 => (laws_eqYard.f k t4 t7).bind fun t8 => if t8 = true then ((laws_markYard.f k t4 1).bind fun t9 => if t9.1 < 0 then (some false) else ((laws_eqIntS.f k t5 t3).bind fun t10 => if t10 = true then ((laws_markIntS.f k t5 1).bind fun t11 => (laws_heldIntS.f k t11.2 1).bind fun t12 => if t12 < 0 then (some false) else (if t12 = t11.1 then ((laws_toYard.f k a0).bind fun t13 => (impl_YardNums.f k t13).bind fun t14 => (laws_eqIntS.f k t14 t3).bind fun t15 => if t15 = true then ((laws_heldIntS.f k t11.2 1).bind fun t16 => if t16 < 0 then (some false) else (if t16 = t11.1 then (some true) else (some false))) else (some false)) else (some false))) else (some false))) else (some false)) else (some false))
theorem laws_FnExactYardNums.go : Callable prog 3 := ⟨_, func3, by kernel_rfl, rfl⟩
theorem laws_FnExactYardNums.ok (k : Nat) (a0 : S35) (r : Bool) (h : laws_FnExactYardNums.f k a0 = some r) : VCalls prog 3 [.agg (e35 a0)] [.c (.p (.sc (.bool r)))] := by
  unfold laws_FnExactYardNums.f at h
  refine VCalls.of (fn := f3) (N := 69) func3 rfl rfl (fun w0 => ?_)
  obtain ⟨t1, g1, h⟩ := bindN h
  let C1 := mkCon (laws_szYard.ok k a0 1048576 t1 g1) laws_szYard.go
  by_cases c2 : t1 < 0
  · replace h := ip c2 h
    cases h
    exact rt func3 [.call C1, .b true, .fin] (oc C1 (oT c2 on))
  · replace h := iq c2 h
    obtain ⟨t2, g3, h⟩ := bindN h
    let C3 := mkCon (laws_toYard.ok k a0 t2 g3) laws_toYard.go
    obtain ⟨t3, g4, h⟩ := bindN h
    let C4 := mkCon (spec_YardNums.ok k t2 t3 g4) spec_YardNums.go
    obtain ⟨t4, g5, h⟩ := bindN h
    let C5 := mkCon (laws_toYard.ok k a0 t4 g5) laws_toYard.go
    obtain ⟨t5, g6, h⟩ := bindN h
    let C6 := mkCon (impl_YardNums.ok k t4 t5 g6) impl_YardNums.go
    obtain ⟨t6, g7, h⟩ := bindN h
    let C7 := mkCon (laws_eqIntS.ok k t5 t3 t6 g7) laws_eqIntS.go
    by_cases c8 : t6 = true
    · replace h := ip c8 h
      obtain ⟨t7, g9, h⟩ := bindN h
      let C9 := mkCon (laws_toYard.ok k a0 t7 g9) laws_toYard.go
      obtain ⟨t8, g10, h⟩ := bindN h
      let C10 := mkCon (laws_eqYard.ok k t4 t7 t8 g10) laws_eqYard.go
      by_cases c11 : t8 = true
      · replace h := ip c11 h
        obtain ⟨t9, g12, h⟩ := bindN h
        let C12 := laws_markYard.con k t4 1 t9 g12
        by_cases c13 : t9.1 < 0
        · replace h := ip c13 h
          cases h
          exact rt func3 [.call C1, .b false, .call C3, .call C4, .call C5, .call C6, .call C7, .b false, .call C9, .call C10, .b false, .callW C12 [(7, 1287), (10, 1290), (15, 1295), (16, 1296), (17, 1297)], .dec 37 true, .b true, .fin] (oc C1 (oF c2 (oc C3 (oc C4 (oc C5 (oc C6 (oc C7 (o1 (bnf c8) (oc C9 (oc C10 (o1 (bnf c11) (oa (scw_ C12) (oT c13 (oR on))))))))))))))
        · replace h := iq c13 h
          obtain ⟨t10, g14, h⟩ := bindN h
          let C14 := mkCon (laws_eqIntS.ok k t5 t3 t10 g14) laws_eqIntS.go
          by_cases c15 : t10 = true
          · replace h := ip c15 h
            obtain ⟨t11, g16, h⟩ := bindN h
            let C16 := laws_markIntS.con k t5 1 t11 g16
            obtain ⟨t12, g17, h⟩ := bindN h
            let C17 := mkCon (laws_heldIntS.ok k t11.2 1 t12 g17) laws_heldIntS.go
            by_cases c18 : t12 < 0
            · replace h := ip c18 h
              cases h
              exact rt func3 [.call C1, .b false, .call C3, .call C4, .call C5, .call C6, .call C7, .b false, .call C9, .call C10, .b false, .callW C12 [(7, 1287), (10, 1290), (15, 1295), (16, 1296), (17, 1297)], .dec 37 false, .call C14, .b false, .callW C16 [(0, 1408)], .call C17, .b true, .fin] (oc C1 (oF c2 (oc C3 (oc C4 (oc C5 (oc C6 (oc C7 (o1 (bnf c8) (oc C9 (oc C10 (o1 (bnf c11) (oa (scw_ C12) (oF c13 (oc C14 (o1 (bnf c15) (oa (scw_ C16) (oc C17 (oT c18 on))))))))))))))))))
            · replace h := iq c18 h
              by_cases c19 : t12 = t11.1
              · replace h := ip c19 h
                obtain ⟨t13, g20, h⟩ := bindN h
                let C20 := mkCon (laws_toYard.ok k a0 t13 g20) laws_toYard.go
                obtain ⟨t14, g21, h⟩ := bindN h
                let C21 := mkCon (impl_YardNums.ok k t13 t14 g21) impl_YardNums.go
                obtain ⟨t15, g22, h⟩ := bindN h
                let C22 := mkCon (laws_eqIntS.ok k t14 t3 t15 g22) laws_eqIntS.go
                by_cases c23 : t15 = true
                · replace h := ip c23 h
                  obtain ⟨t16, g24, h⟩ := bindN h
                  let C24 := mkCon (laws_heldIntS.ok k t11.2 1 t16 g24) laws_heldIntS.go
                  by_cases c25 : t16 < 0
                  · replace h := ip c25 h
                    cases h
                    exact rt func3 [.call C1, .b false, .call C3, .call C4, .call C5, .call C6, .call C7, .b false, .call C9, .call C10, .b false, .callW C12 [(7, 1287), (10, 1290), (15, 1295), (16, 1296), (17, 1297)], .dec 37 false, .call C14, .b false, .callW C16 [(0, 1408)], .call C17, .b false, .b false, .call C20, .call C21, .call C22, .b false, .call C24, .b true, .fin] (oc C1 (oF c2 (oc C3 (oc C4 (oc C5 (oc C6 (oc C7 (o1 (bnf c8) (oc C9 (oc C10 (o1 (bnf c11) (oa (scw_ C12) (oF c13 (oc C14 (o1 (bnf c15) (oa (scw_ C16) (oc C17 (oF c18 (o1 (bnf (decide_eq_true c19)) (oc C20 (oc C21 (oc C22 (o1 (bnf c23) (oc C24 (oT c25 on)))))))))))))))))))))))))
                  · replace h := iq c25 h
                    by_cases c26 : t16 = t11.1
                    · replace h := ip c26 h
                      cases h
                      exact rt func3 [.call C1, .b false, .call C3, .call C4, .call C5, .call C6, .call C7, .b false, .call C9, .call C10, .b false, .callW C12 [(7, 1287), (10, 1290), (15, 1295), (16, 1296), (17, 1297)], .dec 37 false, .call C14, .b false, .callW C16 [(0, 1408)], .call C17, .b false, .b false, .call C20, .call C21, .call C22, .b false, .call C24, .b false, .b false, .fin] (oc C1 (oF c2 (oc C3 (oc C4 (oc C5 (oc C6 (oc C7 (o1 (bnf c8) (oc C9 (oc C10 (o1 (bnf c11) (oa (scw_ C12) (oF c13 (oc C14 (o1 (bnf c15) (oa (scw_ C16) (oc C17 (oF c18 (o1 (bnf (decide_eq_true c19)) (oc C20 (oc C21 (oc C22 (o1 (bnf c23) (oc C24 (oF c25 (o1 (bnf (decide_eq_true c26)) on))))))))))))))))))))))))))
                    · replace h := iq c26 h
                      cases h
                      exact rt func3 [.call C1, .b false, .call C3, .call C4, .call C5, .call C6, .call C7, .b false, .call C9, .call C10, .b false, .callW C12 [(7, 1287), (10, 1290), (15, 1295), (16, 1296), (17, 1297)], .dec 37 false, .call C14, .b false, .callW C16 [(0, 1408)], .call C17, .b false, .b false, .call C20, .call C21, .call C22, .b false, .call C24, .b false, .b true, .fin] (oc C1 (oF c2 (oc C3 (oc C4 (oc C5 (oc C6 (oc C7 (o1 (bnf c8) (oc C9 (oc C10 (o1 (bnf c11) (oa (scw_ C12) (oF c13 (oc C14 (o1 (bnf c15) (oa (scw_ C16) (oc C17 (oF c18 (o1 (bnf (decide_eq_true c19)) (oc C20 (oc C21 (oc C22 (o1 (bnf c23) (oc C24 (oF c25 (o1 (bnt (decide_eq_false c26)) on))))))))))))))))))))))))))
                · replace h := iq c23 h
                  cases h
                  exact rt func3 [.call C1, .b false, .call C3, .call C4, .call C5, .call C6, .call C7, .b false, .call C9, .call C10, .b false, .callW C12 [(7, 1287), (10, 1290), (15, 1295), (16, 1296), (17, 1297)], .dec 37 false, .call C14, .b false, .callW C16 [(0, 1408)], .call C17, .b false, .b false, .call C20, .call C21, .call C22, .b true, .fin] (oc C1 (oF c2 (oc C3 (oc C4 (oc C5 (oc C6 (oc C7 (o1 (bnf c8) (oc C9 (oc C10 (o1 (bnf c11) (oa (scw_ C12) (oF c13 (oc C14 (o1 (bnf c15) (oa (scw_ C16) (oc C17 (oF c18 (o1 (bnf (decide_eq_true c19)) (oc C20 (oc C21 (oc C22 (oN c23 on)))))))))))))))))))))))
              · replace h := iq c19 h
                cases h
                exact rt func3 [.call C1, .b false, .call C3, .call C4, .call C5, .call C6, .call C7, .b false, .call C9, .call C10, .b false, .callW C12 [(7, 1287), (10, 1290), (15, 1295), (16, 1296), (17, 1297)], .dec 37 false, .call C14, .b false, .callW C16 [(0, 1408)], .call C17, .b false, .b true, .fin] (oc C1 (oF c2 (oc C3 (oc C4 (oc C5 (oc C6 (oc C7 (o1 (bnf c8) (oc C9 (oc C10 (o1 (bnf c11) (oa (scw_ C12) (oF c13 (oc C14 (o1 (bnf c15) (oa (scw_ C16) (oc C17 (oF c18 (o1 (bnt (decide_eq_false c19)) on)))))))))))))))))))
          · replace h := iq c15 h
            cases h
            exact rt func3 [.call C1, .b false, .call C3, .call C4, .call C5, .call C6, .call C7, .b false, .call C9, .call C10, .b false, .callW C12 [(7, 1287), (10, 1290), (15, 1295), (16, 1296), (17, 1297)], .dec 37 false, .call C14, .b true, .fin] (oc C1 (oF c2 (oc C3 (oc C4 (oc C5 (oc C6 (oc C7 (o1 (bnf c8) (oc C9 (oc C10 (o1 (bnf c11) (oa (scw_ C12) (oF c13 (oc C14 (oN c15 on)))))))))))))))
      · replace h := iq c11 h
        cases h
        exact rt func3 [.call C1, .b false, .call C3, .call C4, .call C5, .call C6, .call C7, .b false, .call C9, .call C10, .b true, .fin] (oc C1 (oF c2 (oc C3 (oc C4 (oc C5 (oc C6 (oc C7 (o1 (bnf c8) (oc C9 (oc C10 (oN c11 on)))))))))))
    · replace h := iq c8 h
      cases h
      exact rt func3 [.call C1, .b false, .call C3, .call C4, .call C5, .call C6, .call C7, .b true, .fin] (oc C1 (oF c2 (oc C3 (oc C4 (oc C5 (oc C6 (oc C7 (oN c8 on))))))))
end Go.Proofs.YtoaknaceaghclaaGreat.V
