/- What each Go function computes, and that the machine does so: printed by a program of this session (avgen.py). -/
import Derived.Test.YtfhjipfkaemapaaGreatV0
namespace Go.Proofs.YtfhjipfkaemapaaGreat.V
open Go Go.Av Go.Proofs Go.Proofs.Tryz
set_option linter.unusedVariables false
set_option maxRecDepth 100000
def spec_MeetAt.h1T (a0 : List S53) (a1 : Int) (v4 : Int) (v5 : Int) : List (Nat × AV) := [(0, .t (.c (.p false (R 1 e53 z53 a0)))), (1, .t (.c (.p false (iI a1)))), (5, .t (.c (.p true (iI v4)))), (6, .t (.c (.p true (iI v5))))]
def spec_MeetAt.h1H (a0 : List S53) (a1 : Int) (v4 : Int) (v5 : Int) : List (Nat × Content) := []
def spec_MeetAt.x1T (a0 : List S53) (a1 : Int) (v4 : Int) : List (Nat × AV) := [(0, .t (.c (.p false (R 1 e53 z53 a0)))), (1, .t (.c (.p false (iI a1)))), (5, .t (.c (.p true (iI v4))))]
def spec_MeetAt.x1H (a0 : List S53) (a1 : Int) (v4 : Int) : List (Nat × Content) := []
def spec_MeetAt.l1 : Nat → Int → Int → List S53 → Int → Option (Bool ⊕ Unit)
 | 0, _, _, _, _ => none
 | kq + 1, v4, a1, a0, v5 => if v5 < v4 then (if 0 ≤ v4 then (if 0 ≤ a1 then (if a1 < (((rdD z53 a0 v4).f0).length : Int) then (if 0 ≤ v5 then (if v5 < (a0.length : Int) then (if a1 < (((rdD z53 a0 v5).f0).length : Int) then (if (rdD 0 ((rdD z53 a0 v4).f0) a1) = (rdD 0 ((rdD z53 a0 v5).f0) a1) then (some (.inl true)) else (if 0 ≤ (w64 (a1 + 1)) then (if (w64 (a1 + 1)) < (((rdD z53 a0 v4).f0).length : Int) then (if (w64 (a1 + 1)) < (((rdD z53 a0 v5).f0).length : Int) then (if (rdD 0 ((rdD z53 a0 v4).f0) (w64 (a1 + 1))) = (rdD 0 ((rdD z53 a0 v5).f0) (w64 (a1 + 1))) then (some (.inl true)) else (spec_MeetAt.l1 kq v4 a1 a0 (w64 (v5 + 1)))) else none) else none) else none)) else none) else none) else none) else none) else none) else none) else (some (.inr ()))
def spec_MeetAt.h0T (a0 : List S53) (a1 : Int) (v4 : Int) : List (Nat × AV) := [(0, .t (.c (.p false (R 1 e53 z53 a0)))), (1, .t (.c (.p false (iI a1)))), (5, .t (.c (.p true (iI v4))))]
def spec_MeetAt.h0H (a0 : List S53) (a1 : Int) (v4 : Int) : List (Nat × Content) := []
def spec_MeetAt.l0 : Nat → List S53 → Int → Int → Option Bool
 | 0, _, _, _ => none
 | kq + 1, a0, a1, v4 => if v4 < (a0.length : Int) then ((spec_MeetAt.l1 kq v4 a1 a0 0).bind fun x46 => match x46 with | .inl r => some r | .inr y6 => (spec_MeetAt.l0 kq a0 a1 (w64 (v4 + 1)))) else (some false)
def spec_MeetAt.f (k : Nat) (a0 : List S53) (a1 : Int) : Option Bool := (spec_LevelWays.f k a0 a1).bind fun t1 => if t1 = true then (spec_MeetAt.l0 k a0 a1 0) else (some false)
theorem spec_MeetAt.go : Callable prog 79 := ⟨_, func79, by kernel_rfl, rfl⟩
theorem spec_MeetAt.ok (k : Nat) (a0 : List S53) (a1 : Int) (r : Bool) (h : spec_MeetAt.f k a0 a1 = some r) : VCalls prog 79 [.c (R 1 e53 z53 a0), .c (iI a1)] [.c (.p (.sc (.bool r)))] := by
 unfold spec_MeetAt.f at h
 refine VCalls.of (fn := f79) (N := 60) func79 rfl rfl (fun w0 => ?_)
 obtain ⟨t1, g1, h⟩ := bindN h
 let C1 := mkCon (spec_LevelWays.ok k a0 a1 t1 g1) spec_LevelWays.go
 by_cases c2 : t1 = true
 ·replace h := ip c2 h
  have H0 : ∀ (kq : Nat) (v4 : Int), spec_MeetAt.l0 kq a0 a1 v4 = some r → AG prog 79 60 [.c (.p (.sc (.bool r)))] w0 (headStk (codeOf f79) 0) (mkFS (spec_MeetAt.h0T a0 a1 v4) (spec_MeetAt.h0H a0 a1 v4)) := by
   intro kq
   induction kq with
   | zero => intro v4 h; cases h
   | succ kq ih =>
     intro v4 h
     rw [spec_MeetAt.l0] at h
     by_cases c22 : v4 < (a0.length : Int)
     ·replace h := ip c22 h
      have H1 : ∀ (kq : Nat) (v5 : Int) (x : (Bool ⊕ Unit)), spec_MeetAt.l1 kq v4 a1 a0 v5 = some x → (match x with | .inl r' => r' = r | .inr y6 => AG prog 79 60 [.c (.p (.sc (.bool r)))] w0 (exitStk (codeOf f79) 1) (mkFS (spec_MeetAt.x1T a0 a1 v4) (spec_MeetAt.x1H a0 a1 v4))) → AG prog 79 60 [.c (.p (.sc (.bool r)))] w0 (headStk (codeOf f79) 1) (mkFS (spec_MeetAt.h1T a0 a1 v4 v5) (spec_MeetAt.h1H a0 a1 v4 v5)) := by
       intro kq
       induction kq with
       | zero => intro v5 x h hx; cases h
       | succ kq ih =>
         intro v5 x h hx
         rw [spec_MeetAt.l1] at h
         by_cases c34 : v5 < v4
         ·replace h := ip c34 h
          obtain ⟨c35, h⟩ := ifN h
          obtain ⟨c36, h⟩ := ifN h
          obtain ⟨c37, h⟩ := ifN h
          obtain ⟨c38, h⟩ := ifN h
          obtain ⟨c39, h⟩ := ifN h
          obtain ⟨c40, h⟩ := ifN h
          by_cases c41 : (rdD 0 ((rdD z53 a0 v4).f0) a1) = (rdD 0 ((rdD z53 a0 v5).f0) a1)
          ·replace h := ip c41 h
           cases h
           subst hx
           exact rt func79 [.b true, .dec 39 true, .b true, .fin] (oT c34 (o1 c35 (o1 c22 (o1 c36 (o1 c37 (o1 c38 (o1 c39 (o1 c36 (o1 c40 (oT c41 (oR on)))))))))))
          ·replace h := iq c41 h
           obtain ⟨c42, h⟩ := ifN h
           obtain ⟨c43, h⟩ := ifN h
           obtain ⟨c44, h⟩ := ifN h
           by_cases c45 : (rdD 0 ((rdD z53 a0 v4).f0) (w64 (a1 + 1))) = (rdD 0 ((rdD z53 a0 v5).f0) (w64 (a1 + 1)))
           ·replace h := ip c45 h
            cases h
            subst hx
            exact rt func79 [.b true, .dec 39 false, .b true, .fin] (oT c34 (o1 c35 (o1 c22 (o1 c36 (o1 c37 (o1 c38 (o1 c39 (o1 c36 (o1 c40 (oF c41 (o1 c35 (o1 c22 (o1 c42 (o1 c43 (o1 c38 (o1 c39 (o1 c42 (o1 c44 (oT c45 on)))))))))))))))))))
           ·replace h := iq c45 h
            exact hd func79 [.b true, .dec 39 false, .b false, .fin] (oT c34 (o1 c35 (o1 c22 (o1 c36 (o1 c37 (o1 c38 (o1 c39 (o1 c36 (o1 c40 (oF c41 (o1 c35 (o1 c22 (o1 c42 (o1 c43 (o1 c38 (o1 c39 (o1 c42 (o1 c44 (oF c45 on))))))))))))))))))) (ih (w64 (v5 + 1)) _ h hx)
         ·replace h := iq c34 h
          cases h
          exact st func79 [.b false, .fin] (oF c34 on) hx
      obtain ⟨x46, g46, h⟩ := bindN h
      cases x46 with
      | inl r' =>
        exact hd func79 [.b true, .fin] (oT c22 on) (H1 kq 0 _ g46 (Option.some.inj h))
      | inr y6 =>
        refine hd func79 [.b true, .fin] (oT c22 on) (H1 kq 0 _ g46 ?_)
        show AG prog 79 60 [.c (.p (.sc (.bool r)))] w0 (exitStk (codeOf f79) 1) (mkFS (spec_MeetAt.x1T a0 a1 v4) (spec_MeetAt.x1H a0 a1 v4))
        exact hd func79 [.fin] on (ih (w64 (v4 + 1)) h)
     ·replace h := iq c22 h
      cases h
      exact rt func79 [.b false, .fin, .fin] (oF c22 on)
  exact hd func79 [.call C1, .b false, .fin] (oc C1 (o1 (bnf c2) on)) (H0 k 0 h)
 ·replace h := iq c2 h
  cases h
  exact rt func79 [.call C1, .b true, .fin] (oc C1 (oN c2 on))
def spec_l12Ring.h1T (a0 : List S53) (a1 : Int) (a2 : Int) (v14 : Int) (v15 : Int) (v20 : Int) (v19 : Int) : List (Nat × AV) := [(0, .t (.c (.p false (R 1 e53 z53 a0)))), (1, .t (.c (.p false (iI a1)))), (2, .t (.c (.p false (iI a2)))), (7, .t (.c (.p false (iI v14)))), (8, .t (.c (.p true (iI v15)))), (9, .t (.c (.p true (iI v20)))), (10, .t (.c (.p true (iI v19))))]
def spec_l12Ring.h1H (a0 : List S53) (a1 : Int) (a2 : Int) (v14 : Int) (v15 : Int) (v20 : Int) (v19 : Int) : List (Nat × Content) := []
def spec_l12Ring.x1T (a0 : List S53) (a1 : Int) (a2 : Int) (v15 : Int) (y21 : Int) : List (Nat × AV) := [(0, .t (.c (.p false (R 1 e53 z53 a0)))), (1, .t (.c (.p false (iI a1)))), (2, .t (.c (.p false (iI a2)))), (8, .t (.c (.p true (iI v15)))), (9, .t (.c (.p true (iI y21))))]
def spec_l12Ring.x1H (a0 : List S53) (a1 : Int) (a2 : Int) (v15 : Int) (y21 : Int) : List (Nat × Content) := []
def spec_l12Ring.l1 : Nat → List S53 → Int → Int → Int → Int → Option Int
 | 0, _, _, _, _, _ => none
 | kq + 1, a0, a1, v14, v19, v20 => if v19 < (a0.length : Int) then (if 0 ≤ v19 then (if 0 ≤ a1 then (if a1 < (((rdD z53 a0 v19).f0).length : Int) then (if 0 ≤ v14 then (if v14 < (a0.length : Int) then (if 0 ≤ (w64 (a1 + 1)) then (if (w64 (a1 + 1)) < (((rdD z53 a0 v14).f0).length : Int) then (if (rdD 0 ((rdD z53 a0 v19).f0) a1) = (rdD 0 ((rdD z53 a0 v14).f0) (w64 (a1 + 1))) then (spec_l12Ring.l1 kq a0 a1 v14 (w64 (v19 + 1)) v19) else (spec_l12Ring.l1 kq a0 a1 v14 (w64 (v19 + 1)) v20)) else none) else none) else none) else none) else none) else none) else none) else (some v20)
def spec_l12Ring.h0T (a0 : List S53) (a1 : Int) (a2 : Int) (v14 : Int) (v15 : Int) : List (Nat × AV) := [(0, .t (.c (.p false (R 1 e53 z53 a0)))), (1, .t (.c (.p false (iI a1)))), (2, .t (.c (.p false (iI a2)))), (7, .t (.c (.p false (iI v14)))), (8, .t (.c (.p true (iI v15))))]
def spec_l12Ring.h0H (a0 : List S53) (a1 : Int) (a2 : Int) (v14 : Int) (v15 : Int) : List (Nat × Content) := []
def spec_l12Ring.l0 : Nat → List S53 → Int → Int → Int → Int → Option Int
 | 0, _, _, _, _, _ => none
 | kq + 1, a0, a1, a2, v14, v15 => if v15 ≤ (a0.length : Int) then ((spec_l12Ring.l1 kq a0 a1 v14 0 (-1)).bind fun y21 => (if y21 < 0 then (some 0) else (if y21 = a2 then (some v15) else (spec_l12Ring.l0 kq a0 a1 a2 y21 (w64 (v15 + 1)))))) else (some 0)
def spec_l12Ring.f (k : Nat) (a0 : List S53) (a1 : Int) (a2 : Int) : Option Int := spec_l12Ring.l0 k a0 a1 a2 a2 1
theorem spec_l12Ring.go : Callable prog 137 := ⟨_, func137, by kernel_rfl, rfl⟩
theorem spec_l12Ring.ok (k : Nat) (a0 : List S53) (a1 : Int) (a2 : Int) (r : Int) (h : spec_l12Ring.f k a0 a1 a2 = some r) : VCalls prog 137 [.c (R 1 e53 z53 a0), .c (iI a1), .c (iI a2)] [.c (.p (iI r))] := by
 unfold spec_l12Ring.f at h
 refine VCalls.of (fn := f137) (N := 50) func137 rfl rfl (fun w0 => ?_)
 have H0 : ∀ (kq : Nat) (v14 : Int) (v15 : Int), spec_l12Ring.l0 kq a0 a1 a2 v14 v15 = some r → AG prog 137 50 [.c (.p (iI r))] w0 (headStk (codeOf f137) 0) (mkFS (spec_l12Ring.h0T a0 a1 a2 v14 v15) (spec_l12Ring.h0H a0 a1 a2 v14 v15)) := by
  intro kq
  induction kq with
  | zero => intro v14 v15 h; cases h
  | succ kq ih =>
    intro v14 v15 h
    rw [spec_l12Ring.l0] at h
    by_cases c75 : v15 ≤ (a0.length : Int)
    ·replace h := ip c75 h
     have H1 : ∀ (kq : Nat) (v19 : Int) (v20 : Int) (x : Int), spec_l12Ring.l1 kq a0 a1 v14 v19 v20 = some x → AG prog 137 50 [.c (.p (iI r))] w0 (exitStk (codeOf f137) 1) (mkFS (spec_l12Ring.x1T a0 a1 a2 v15 x) (spec_l12Ring.x1H a0 a1 a2 v15 x)) → AG prog 137 50 [.c (.p (iI r))] w0 (headStk (codeOf f137) 1) (mkFS (spec_l12Ring.h1T a0 a1 a2 v14 v15 v20 v19) (spec_l12Ring.h1H a0 a1 a2 v14 v15 v20 v19)) := by
      intro kq
      induction kq with
      | zero => intro v19 v20 x h hx; cases h
      | succ kq ih =>
        intro v19 v20 x h hx
        rw [spec_l12Ring.l1] at h
        by_cases c101 : v19 < (a0.length : Int)
        ·replace h := ip c101 h
         obtain ⟨c102, h⟩ := ifN h
         obtain ⟨c103, h⟩ := ifN h
         obtain ⟨c104, h⟩ := ifN h
         obtain ⟨c105, h⟩ := ifN h
         obtain ⟨c106, h⟩ := ifN h
         obtain ⟨c107, h⟩ := ifN h
         obtain ⟨c108, h⟩ := ifN h
         by_cases c109 : (rdD 0 ((rdD z53 a0 v19).f0) a1) = (rdD 0 ((rdD z53 a0 v14).f0) (w64 (a1 + 1)))
         ·replace h := ip c109 h
          exact hd func137 [.b true, .b true, .fin] (oT c101 (o1 c102 (o1 c101 (o1 c103 (o1 c104 (o1 c105 (o1 c106 (o1 c107 (o1 c108 (oT c109 on)))))))))) (ih (w64 (v19 + 1)) v19 _ h hx)
         ·replace h := iq c109 h
          exact hd func137 [.b true, .b false, .fin] (oT c101 (o1 c102 (o1 c101 (o1 c103 (o1 c104 (o1 c105 (o1 c106 (o1 c107 (o1 c108 (oF c109 on)))))))))) (ih (w64 (v19 + 1)) v20 _ h hx)
        ·replace h := iq c101 h
         cases h
         exact st func137 [.b false, .fin] (oF c101 on) hx
     obtain ⟨y21, g112, h⟩ := bindN h
     refine hd func137 [.b true, .fin] (oT c75 on) (H1 kq 0 (-1) _ g112 ?_)
     by_cases c110 : y21 < 0
     ·replace h := ip c110 h
      cases h
      exact rt func137 [.b true, .fin] (oT c110 on)
     ·replace h := iq c110 h
      by_cases c111 : y21 = a2
      ·replace h := ip c111 h
       cases h
       exact rt func137 [.b false, .b true, .fin] (oF c110 (oT c111 on))
      ·replace h := iq c111 h
       exact hd func137 [.b false, .b false, .fin] (oF c110 (oF c111 on)) (ih y21 (w64 (v15 + 1)) h)
    ·replace h := iq c75 h
     cases h
     exact rt func137 [.b false, .fin, .fin] (oF c75 on)
 exact hd func137 [.fin] on (H0 k a2 1 h)
def spec_l12Count.h0T (a0 : List S53) (a1 : Int) (a2 : Int) (a3 : Int) (v9 : Int) (v8 : Int) : List (Nat × AV) := [(0, .t (.c (.p false (R 1 e53 z53 a0)))), (1, .t (.c (.p false (iI a1)))), (2, .t (.c (.p false (iI a2)))), (3, .t (.c (.p false (iI a3)))), (9, .t (.c (.p true (iI v9)))), (10, .t (.c (.p true (iI v8))))]
def spec_l12Count.h0H (a0 : List S53) (a1 : Int) (a2 : Int) (a3 : Int) (v9 : Int) (v8 : Int) : List (Nat × Content) := []
def spec_l12Count.l0 : Nat → List S53 → Int → Int → Int → Int → Int → Option Int
 | 0, _, _, _, _, _, _ => none
 | kq + 1, a0, a1, a2, a3, v8, v9 => if v8 < (a0.length : Int) then ((spec_l12Ring.f kq a0 a1 v8).bind fun t10 => (spec_l01In.f t10 a2 a3).bind fun t11 => if t11 = true then (spec_l12Count.l0 kq a0 a1 a2 a3 (w64 (v8 + 1)) (w64 (v9 + 1))) else (spec_l12Count.l0 kq a0 a1 a2 a3 (w64 (v8 + 1)) v9)) else (some v9)
def spec_l12Count.f (k : Nat) (a0 : List S53) (a1 : Int) (a2 : Int) (a3 : Int) : Option Int := (spec_LevelWays.f k a0 a1).bind fun t1 => if t1 = true then ((spec_MeetAt.f k a0 a1).bind fun t2 => if t2 = true then (some 0) else (spec_l12Count.l0 k a0 a1 a2 a3 0 0)) else (some 0)
theorem spec_l12Count.go : Callable prog 120 := ⟨_, func120, by kernel_rfl, rfl⟩
theorem spec_l12Count.ok (k : Nat) (a0 : List S53) (a1 : Int) (a2 : Int) (a3 : Int) (r : Int) (h : spec_l12Count.f k a0 a1 a2 a3 = some r) : VCalls prog 120 [.c (R 1 e53 z53 a0), .c (iI a1), .c (iI a2), .c (iI a3)] [.c (.p (iI r))] := by
 unfold spec_l12Count.f at h
 refine VCalls.of (fn := f120) (N := 36) func120 rfl rfl (fun w0 => ?_)
 obtain ⟨t1, g1, h⟩ := bindN h
 let C1 := mkCon (spec_LevelWays.ok k a0 a1 t1 g1) spec_LevelWays.go
 by_cases c2 : t1 = true
 ·replace h := ip c2 h
  obtain ⟨t2, g3, h⟩ := bindN h
  let C3 := mkCon (spec_MeetAt.ok k a0 a1 t2 g3) spec_MeetAt.go
  by_cases c4 : t2 = true
  ·replace h := ip c4 h
   cases h
   exact rt func120 [.call C1, .dec 15 false, .call C3, .b true, .fin] (oc C1 (o1 (bnf c2) (oc C3 (o1 c4 on))))
  ·replace h := iq c4 h
   have H0 : ∀ (kq : Nat) (v8 : Int) (v9 : Int), spec_l12Count.l0 kq a0 a1 a2 a3 v8 v9 = some r → AG prog 120 36 [.c (.p (iI r))] w0 (headStk (codeOf f120) 0) (mkFS (spec_l12Count.h0T a0 a1 a2 a3 v9 v8) (spec_l12Count.h0H a0 a1 a2 a3 v9 v8)) := by
    intro kq
    induction kq with
    | zero => intro v8 v9 h; cases h
    | succ kq ih =>
      intro v8 v9 h
      rw [spec_l12Count.l0] at h
      by_cases c13 : v8 < (a0.length : Int)
      ·replace h := ip c13 h
       obtain ⟨t10, g14, h⟩ := bindN h
       let C14 := mkCon (spec_l12Ring.ok kq a0 a1 v8 t10 g14) spec_l12Ring.go
       obtain ⟨t11, g15, h⟩ := bindN h
       let C15 := mkCon (spec_l01In.ok t10 a2 a3 t11 g15) spec_l01In.go
       by_cases c16 : t11 = true
       ·replace h := ip c16 h
        exact hd func120 [.b true, .call C14, .call C15, .b true, .fin] (oT c13 (oc C14 (oc C15 (o1 c16 on)))) (ih (w64 (v8 + 1)) (w64 (v9 + 1)) h)
       ·replace h := iq c16 h
        exact hd func120 [.b true, .call C14, .call C15, .b false, .fin] (oT c13 (oc C14 (oc C15 (o1 (eqf c16) on)))) (ih (w64 (v8 + 1)) v9 h)
      ·replace h := iq c13 h
       cases h
       exact rt func120 [.b false, .fin, .fin] (oF c13 on)
   exact hd func120 [.call C1, .dec 15 false, .call C3, .b false, .fin] (oc C1 (o1 (bnf c2) (oc C3 (o1 (eqf c4) on)))) (H0 k 0 0 h)
 ·replace h := iq c2 h
  cases h
  exact rt func120 [.call C1, .dec 15 true, .b true, .fin] (oc C1 (oN c2 (oR on)))
def spec_SwapsAt.f (k : Nat) (a0 : List S53) (a1 : Int) : Option Int := (spec_l12Count.f k a0 a1 2 2).bind fun t1 => some (w64 (t1.tdiv 2))
theorem spec_SwapsAt.go : Callable prog 80 := ⟨_, func80, by kernel_rfl, rfl⟩
theorem spec_SwapsAt.ok (k : Nat) (a0 : List S53) (a1 : Int) (r : Int) (h : spec_SwapsAt.f k a0 a1 = some r) : VCalls prog 80 [.c (R 1 e53 z53 a0), .c (iI a1)] [.c (.p (iI r))] := by
 unfold spec_SwapsAt.f at h
 refine VCalls.of (fn := f80) (N := 9) func80 rfl rfl (fun w0 => ?_)
 obtain ⟨t1, g1, h⟩ := bindN h
 let C1 := mkCon (spec_l12Count.ok k a0 a1 2 2 t1 g1) spec_l12Count.go
 cases h
 exact rt func80 [.call C1, .fin] (oc C1 (o1 (by decide : (2 : Int) ≠ 0) on))
def spec_RingsAt.f (k : Nat) (a0 : List S53) (a1 : Int) : Option Int := (spec_l12Count.f k a0 a1 3 10).bind fun t1 => some t1
theorem spec_RingsAt.go : Callable prog 81 := ⟨_, func81, by kernel_rfl, rfl⟩
theorem spec_RingsAt.ok (k : Nat) (a0 : List S53) (a1 : Int) (r : Int) (h : spec_RingsAt.f k a0 a1 = some r) : VCalls prog 81 [.c (R 1 e53 z53 a0), .c (iI a1)] [.c (.p (iI r))] := by
 unfold spec_RingsAt.f at h
 refine VCalls.of (fn := f81) (N := 8) func81 rfl rfl (fun w0 => ?_)
 obtain ⟨t1, g1, h⟩ := bindN h
 let C1 := mkCon (spec_l12Count.ok k a0 a1 3 10 t1 g1) spec_l12Count.go
 cases h
 exact rt func81 [.call C1, .fin] (oc C1 on)
def spec_EndsOf.h0T (a0 : List S53) (v3 : Int) (v2 : List Int) : List (Nat × AV) := [(0, .t (.c (.p false (R 1 e53 z53 a0)))), (3, .t (.c (.h 320))), (4, .t (.c (.p true (iI v3))))]
def spec_EndsOf.h0H (a0 : List S53) (v3 : Int) (v2 : List Int) : List (Nat × Content) := [(320, .row 3 1 v2.length (fun j => (eI .i64) (v2.getD j 0)) true)]
def spec_EndsOf.l0 : Nat → List S53 → List Int → Int → Option (List Int)
 | 0, _, _, _ => none
 | kq + 1, a0, v2, v3 => if v3 < (a0.length : Int) then (if 0 ≤ v3 then (if 0 < (((rdD z53 a0 v3).f0).length : Int) then (if 0 ≤ (w64 ((((rdD z53 a0 v3).f0).length : Int) - 1)) then (if (w64 ((((rdD z53 a0 v3).f0).length : Int) - 1)) < (((rdD z53 a0 v3).f0).length : Int) then (if (v2.length + 1) * 8 ≤ 140737488355328 then (spec_EndsOf.l0 kq a0 (v2 ++ [(rdD 0 ((rdD z53 a0 v3).f0) (w64 ((((rdD z53 a0 v3).f0).length : Int) - 1)))]) (w64 (v3 + 1))) else none) else none) else none) else (spec_EndsOf.l0 kq a0 v2 (w64 (v3 + 1)))) else none) else ((spec_l11Sorted.f kq v2).bind fun t4 => some t4)
def spec_EndsOf.f (k : Nat) (a0 : List S53) : Option (List Int) := spec_EndsOf.l0 k a0 ([] : List Int) 0
theorem spec_EndsOf.go : Callable prog 82 := ⟨_, func82, by kernel_rfl, rfl⟩
theorem spec_EndsOf.ok (k : Nat) (a0 : List S53) (r : (List Int)) (h : spec_EndsOf.f k a0 = some r) : VCalls prog 82 [.c (R 1 e53 z53 a0)] [.c (.own 3 1 r.length (fun j => (eI .i64) (r.getD j 0)))] := by
 unfold spec_EndsOf.f at h
 refine VCalls.of (fn := f82) (N := 38) func82 rfl rfl (fun w0 => ?_)
 have H0 : ∀ (kq : Nat) (v2 : List Int) (v3 : Int), spec_EndsOf.l0 kq a0 v2 v3 = some r → AG prog 82 38 [.c (.own 3 1 r.length (fun j => (eI .i64) (r.getD j 0)))] w0 (headStk (codeOf f82) 0) (mkFS (spec_EndsOf.h0T a0 v3 v2) (spec_EndsOf.h0H a0 v3 v2)) := by
  intro kq
  induction kq with
  | zero => intro v2 v3 h; cases h
  | succ kq ih =>
    intro v2 v3 h
    rw [spec_EndsOf.l0] at h
    by_cases c12 : v3 < (a0.length : Int)
    ·replace h := ip c12 h
     obtain ⟨c13, h⟩ := ifN h
     by_cases c14 : 0 < (((rdD z53 a0 v3).f0).length : Int)
     ·replace h := ip c14 h
      obtain ⟨c15, h⟩ := ifN h
      obtain ⟨c16, h⟩ := ifN h
      obtain ⟨c17, h⟩ := ifN h
      exact hd func82 [.b true, .b true, rowe 34 (eI .i64) 0 ([(rdD 0 ((rdD z53 a0 v3).f0) (w64 ((((rdD z53 a0 v3).f0).length : Int) - 1)))]), .aft 35, orow 320 (eI .i64) 0 (v2 ++ [(rdD 0 ((rdD z53 a0 v3).f0) (w64 ((((rdD z53 a0 v3).f0).length : Int) - 1)))]), .fin] (oT c12 (o1 c13 (o1 c12 (oT c14 (o1 c13 (o1 c12 (o1 c13 (o1 c12 (o1 c15 (o1 c16 (o1 (GE.lit 1 (eI .i64) 0 [(rdD 0 ((rdD z53 a0 v3).f0) (w64 ((((rdD z53 a0 v3).f0).length : Int) - 1)))] (by intro x; rfl)) (o1 c17 (o1 (GE.app (e := (eI .i64)) (d := 0) v2 ([(rdD 0 ((rdD z53 a0 v3).f0) (w64 ((((rdD z53 a0 v3).f0).length : Int) - 1)))]) rfl (fun _ _ => CE.refl _) rfl) on))))))))))))) (ih (v2 ++ [(rdD 0 ((rdD z53 a0 v3).f0) (w64 ((((rdD z53 a0 v3).f0).length : Int) - 1)))]) (w64 (v3 + 1)) h)
     ·replace h := iq c14 h
      exact hd func82 [.b true, .b false, .fin] (oT c12 (o1 c13 (o1 c12 (oF c14 on)))) (ih v2 (w64 (v3 + 1)) h)
    ·replace h := iq c12 h
     obtain ⟨t4, g18, h⟩ := bindN h
     let C18 := mkCon (spec_l11Sorted.ok kq v2 t4 g18) spec_l11Sorted.go
     cases h
     exact rt func82 [.b false, .fin, .call C18, .fin] (oF c12 (oc C18 on))
 exact hd func82 [rowe 5 (eI .i64) 0 ([] : List Int), .fin] (o1 (GE.lit 1 (eI .i64) 0 ([] : List Int) (by intro x; rfl)) on) (H0 k ([] : List Int) 0 h)
def spec_MovesOf.h1T (a0 : List S53) (v19 : Int) (v15 : Int) (v20 : Int) : List (Nat × AV) := [(0, .t (.c (.p false (R 1 e53 z53 a0)))), (3, .t (.c (.p true (iI v19)))), (4, .t (.c (.p true (iI v15)))), (5, .t (.c (.p true (iI v20))))]
def spec_MovesOf.h1H (a0 : List S53) (v19 : Int) (v15 : Int) (v20 : Int) : List (Nat × Content) := []
def spec_MovesOf.x1T (a0 : List S53) (y21 : Int) (v15 : Int) : List (Nat × AV) := [(0, .t (.c (.p false (R 1 e53 z53 a0)))), (3, .t (.c (.p true (iI y21)))), (4, .t (.c (.p true (iI v15))))]
def spec_MovesOf.x1H (a0 : List S53) (y21 : Int) (v15 : Int) : List (Nat × Content) := []
def spec_MovesOf.l1 : Nat → Int → List S53 → Int → Int → Option Int
 | 0, _, _, _, _ => none
 | kq + 1, v15, a0, v19, v20 => if 0 ≤ v15 then (if v20 < (((rdD z53 a0 v15).f0).length : Int) then (if 0 ≤ v20 then (if 0 ≤ (w64 (v20 - 1)) then (if (w64 (v20 - 1)) < (((rdD z53 a0 v15).f0).length : Int) then (if (rdD 0 ((rdD z53 a0 v15).f0) v20) = (rdD 0 ((rdD z53 a0 v15).f0) (w64 (v20 - 1))) then (spec_MovesOf.l1 kq v15 a0 v19 (w64 (v20 + 1))) else (spec_MovesOf.l1 kq v15 a0 (w64 (v19 + 1)) (w64 (v20 + 1)))) else none) else none) else none) else (some v19)) else none
def spec_MovesOf.h0T (a0 : List S53) (v14 : Int) (v15 : Int) : List (Nat × AV) := [(0, .t (.c (.p false (R 1 e53 z53 a0)))), (3, .t (.c (.p true (iI v14)))), (4, .t (.c (.p true (iI v15))))]
def spec_MovesOf.h0H (a0 : List S53) (v14 : Int) (v15 : Int) : List (Nat × Content) := []
def spec_MovesOf.l0 : Nat → List S53 → Int → Int → Option Int
 | 0, _, _, _ => none
 | kq + 1, a0, v14, v15 => if v15 < (a0.length : Int) then ((spec_MovesOf.l1 kq v15 a0 v14 1).bind fun y21 => (spec_MovesOf.l0 kq a0 y21 (w64 (v15 + 1)))) else (some v14)
def spec_MovesOf.f (k : Nat) (a0 : List S53) : Option Int := spec_MovesOf.l0 k a0 0 0
theorem spec_MovesOf.go : Callable prog 83 := ⟨_, func83, by kernel_rfl, rfl⟩
theorem spec_MovesOf.ok (k : Nat) (a0 : List S53) (r : Int) (h : spec_MovesOf.f k a0 = some r) : VCalls prog 83 [.c (R 1 e53 z53 a0)] [.c (.p (iI r))] := by
 unfold spec_MovesOf.f at h
 refine VCalls.of (fn := f83) (N := 43) func83 rfl rfl (fun w0 => ?_)
 have H0 : ∀ (kq : Nat) (v14 : Int) (v15 : Int), spec_MovesOf.l0 kq a0 v14 v15 = some r → AG prog 83 43 [.c (.p (iI r))] w0 (headStk (codeOf f83) 0) (mkFS (spec_MovesOf.h0T a0 v14 v15) (spec_MovesOf.h0H a0 v14 v15)) := by
  intro kq
  induction kq with
  | zero => intro v14 v15 h; cases h
  | succ kq ih =>
    intro v14 v15 h
    rw [spec_MovesOf.l0] at h
    by_cases c41 : v15 < (a0.length : Int)
    ·replace h := ip c41 h
     have H1 : ∀ (kq : Nat) (v19 : Int) (v20 : Int) (x : Int), spec_MovesOf.l1 kq v15 a0 v19 v20 = some x → AG prog 83 43 [.c (.p (iI r))] w0 (exitStk (codeOf f83) 1) (mkFS (spec_MovesOf.x1T a0 x v15) (spec_MovesOf.x1H a0 x v15)) → AG prog 83 43 [.c (.p (iI r))] w0 (headStk (codeOf f83) 1) (mkFS (spec_MovesOf.h1T a0 v19 v15 v20) (spec_MovesOf.h1H a0 v19 v15 v20)) := by
      intro kq
      induction kq with
      | zero => intro v19 v20 x h hx; cases h
      | succ kq ih =>
        intro v19 v20 x h hx
        rw [spec_MovesOf.l1] at h
        obtain ⟨c59, h⟩ := ifN h
        by_cases c60 : v20 < (((rdD z53 a0 v15).f0).length : Int)
        ·replace h := ip c60 h
         obtain ⟨c61, h⟩ := ifN h
         obtain ⟨c62, h⟩ := ifN h
         obtain ⟨c63, h⟩ := ifN h
         by_cases c64 : (rdD 0 ((rdD z53 a0 v15).f0) v20) = (rdD 0 ((rdD z53 a0 v15).f0) (w64 (v20 - 1)))
         ·replace h := ip c64 h
          exact hd func83 [.b true, .b false, .fin] (o1 c59 (o1 c41 (oT c60 (o1 c59 (o1 c41 (o1 c61 (o1 c60 (o1 c59 (o1 c41 (o1 c62 (o1 c63 (o1 (bnf (decide_eq_true c64)) on)))))))))))) (ih v19 (w64 (v20 + 1)) _ h hx)
         ·replace h := iq c64 h
          exact hd func83 [.b true, .b true, .fin] (o1 c59 (o1 c41 (oT c60 (o1 c59 (o1 c41 (o1 c61 (o1 c60 (o1 c59 (o1 c41 (o1 c62 (o1 c63 (o1 (bnt (decide_eq_false c64)) on)))))))))))) (ih (w64 (v19 + 1)) (w64 (v20 + 1)) _ h hx)
        ·replace h := iq c60 h
         cases h
         exact st func83 [.b false, .fin] (o1 c59 (o1 c41 (oF c60 on))) hx
     obtain ⟨y21, g65, h⟩ := bindN h
     refine hd func83 [.b true, .fin] (oT c41 on) (H1 kq v14 1 _ g65 ?_)
     exact hd func83 [.fin] on (ih y21 (w64 (v15 + 1)) h)
    ·replace h := iq c41 h
     cases h
     exact rt func83 [.b false, .fin, .fin] (oF c41 on)
 exact hd func83 [.fin] on (H0 k 0 0 h)
def spec_PlanFault.h1T (a2 : List Int) (v8 : Int) (a3 : S32) (v10 : Int) (a0 : S24) : List (Nat × AV) := [(2, .t (.c (.p false (R 1 (eI .i64) 0 a2)))), (4, .ptr 256 0), (7, .ptr 448 0), (9, .t (.c (.p true (iI v8)))), (10, .t (.c (.p false (R 1 (eI .i64) 0 ((rdD z53 a3.f2 v8).f0))))), (11, .t (.c (.p true (iI v10))))]
def spec_PlanFault.h1H (a2 : List Int) (v8 : Int) (a3 : S32) (v10 : Int) (a0 : S24) : List (Nat × Content) := [(256, .box 24 [.p false (iI a0.f0), .p false (iI a0.f1), .p false (.sc (.string a0.f2))]), (448, .box 32 [.p false (iI a3.f0), .p false (iI a3.f1), .p false (R 1 e53 z53 a3.f2)])]
def spec_PlanFault.x1T (a2 : List Int) (v8 : Int) (a0 : S24) (a3 : S32) : List (Nat × AV) := [(2, .t (.c (.p false (R 1 (eI .i64) 0 a2)))), (4, .ptr 256 0), (7, .ptr 448 0), (9, .t (.c (.p true (iI v8))))]
def spec_PlanFault.x1H (a2 : List Int) (v8 : Int) (a0 : S24) (a3 : S32) : List (Nat × Content) := [(256, .box 24 [.p false (iI a0.f0), .p false (iI a0.f1), .p false (.sc (.string a0.f2))]), (448, .box 32 [.p false (iI a3.f0), .p false (iI a3.f1), .p false (R 1 e53 z53 a3.f2)])]
def spec_PlanFault.l1 : Nat → S32 → Int → S24 → Int → Option (Int ⊕ Unit)
 | 0, _, _, _, _ => none
 | kq + 1, a3, v8, a0, v10 => if v10 < (((rdD z53 a3.f2 v8).f0).length : Int) then (if 0 ≤ v10 then ((spec_FreeAt.f kq a0 (rdD 0 ((rdD z53 a3.f2 v8).f0) v10)).bind fun t11 => if t11 = true then (if 0 < v10 then (if 0 ≤ (w64 (v10 - 1)) then (if (w64 (v10 - 1)) < (((rdD z53 a3.f2 v8).f0).length : Int) then (if (rdD 0 ((rdD z53 a3.f2 v8).f0) v10) = (rdD 0 ((rdD z53 a3.f2 v8).f0) (w64 (v10 - 1))) then (spec_PlanFault.l1 kq a3 v8 a0 (w64 (v10 + 1))) else ((spec_Beside.f kq a0 (rdD 0 ((rdD z53 a3.f2 v8).f0) (w64 (v10 - 1))) (rdD 0 ((rdD z53 a3.f2 v8).f0) v10)).bind fun t12 => if t12 = true then (spec_PlanFault.l1 kq a3 v8 a0 (w64 (v10 + 1))) else (some (.inl 3)))) else none) else none) else (spec_PlanFault.l1 kq a3 v8 a0 (w64 (v10 + 1)))) else (some (.inl 3))) else none) else (some (.inr ()))
def spec_PlanFault.h0T (a2 : List Int) (v8 : Int) (a0 : S24) (a3 : S32) : List (Nat × AV) := [(2, .t (.c (.p false (R 1 (eI .i64) 0 a2)))), (4, .ptr 256 0), (7, .ptr 448 0), (9, .t (.c (.p true (iI v8))))]
def spec_PlanFault.h0H (a2 : List Int) (v8 : Int) (a0 : S24) (a3 : S32) : List (Nat × Content) := [(256, .box 24 [.p false (iI a0.f0), .p false (iI a0.f1), .p false (.sc (.string a0.f2))]), (448, .box 32 [.p false (iI a3.f0), .p false (iI a3.f1), .p false (R 1 e53 z53 a3.f2)])]
def spec_PlanFault.x0T (a2 : List Int) (a3 : S32) : List (Nat × AV) := [(2, .t (.c (.p false (R 1 (eI .i64) 0 a2)))), (7, .ptr 448 0)]
def spec_PlanFault.x0H (a2 : List Int) (a3 : S32) : List (Nat × Content) := [(448, .box 32 [.p false (iI a3.f0), .p false (iI a3.f1), .p false (R 1 e53 z53 a3.f2)])]
def spec_PlanFault.l0 : Nat → S32 → S24 → Int → Option (Int ⊕ Unit)
 | 0, _, _, _ => none
 | kq + 1, a3, a0, v8 => if v8 < (a3.f2.length : Int) then (if 0 ≤ v8 then ((spec_PlanFault.l1 kq a3 v8 a0 0).bind fun x42 => match x42 with | .inl r => some (.inl r) | .inr y13 => (spec_PlanFault.l0 kq a3 a0 (w64 (v8 + 1)))) else none) else (some (.inr ()))
def spec_PlanFault.h3T (a2 : List Int) (v27 : Int) (v31 : Int) (a3 : S32) : List (Nat × AV) := [(2, .t (.c (.p false (R 1 (eI .i64) 0 a2)))), (7, .ptr 448 0), (12, .t (.c (.p true (iI v27)))), (13, .t (.c (.p true (iI v31))))]
def spec_PlanFault.h3H (a2 : List Int) (v27 : Int) (v31 : Int) (a3 : S32) : List (Nat × Content) := [(448, .box 32 [.p false (iI a3.f0), .p false (iI a3.f1), .p false (R 1 e53 z53 a3.f2)])]
def spec_PlanFault.x3T (a2 : List Int) (v27 : Int) (a3 : S32) : List (Nat × AV) := [(2, .t (.c (.p false (R 1 (eI .i64) 0 a2)))), (7, .ptr 448 0), (12, .t (.c (.p true (iI v27))))]
def spec_PlanFault.x3H (a2 : List Int) (v27 : Int) (a3 : S32) : List (Nat × Content) := [(448, .box 32 [.p false (iI a3.f0), .p false (iI a3.f1), .p false (R 1 e53 z53 a3.f2)])]
def spec_PlanFault.l3 : Nat → S32 → Int → Int → Option (Int ⊕ Unit)
 | 0, _, _, _ => none
 | kq + 1, a3, v27, v31 => if v31 < a3.f0 then (if v27 = 4 then ((spec_MeetAt.f kq a3.f2 v31).bind fun t32 => if t32 = true then (some (.inl v27)) else (if v27 = 5 then ((spec_SwapsAt.f kq a3.f2 v31).bind fun t33 => if 0 < t33 then (some (.inl v27)) else (if v27 = 6 then ((spec_RingsAt.f kq a3.f2 v31).bind fun t34 => if 0 < t34 then (some (.inl v27)) else (spec_PlanFault.l3 kq a3 v27 (w64 (v31 + 1)))) else (spec_PlanFault.l3 kq a3 v27 (w64 (v31 + 1))))) else (if v27 = 6 then ((spec_RingsAt.f kq a3.f2 v31).bind fun t35 => if 0 < t35 then (some (.inl v27)) else (spec_PlanFault.l3 kq a3 v27 (w64 (v31 + 1)))) else (spec_PlanFault.l3 kq a3 v27 (w64 (v31 + 1)))))) else (if v27 = 5 then ((spec_SwapsAt.f kq a3.f2 v31).bind fun t36 => if 0 < t36 then (some (.inl v27)) else (if v27 = 6 then ((spec_RingsAt.f kq a3.f2 v31).bind fun t37 => if 0 < t37 then (some (.inl v27)) else (spec_PlanFault.l3 kq a3 v27 (w64 (v31 + 1)))) else (spec_PlanFault.l3 kq a3 v27 (w64 (v31 + 1))))) else (if v27 = 6 then ((spec_RingsAt.f kq a3.f2 v31).bind fun t38 => if 0 < t38 then (some (.inl v27)) else (spec_PlanFault.l3 kq a3 v27 (w64 (v31 + 1)))) else (spec_PlanFault.l3 kq a3 v27 (w64 (v31 + 1)))))) else (some (.inr ()))
def spec_PlanFault.h2T (a2 : List Int) (v27 : Int) (a3 : S32) : List (Nat × AV) := [(2, .t (.c (.p false (R 1 (eI .i64) 0 a2)))), (7, .ptr 448 0), (12, .t (.c (.p true (iI v27))))]
def spec_PlanFault.h2H (a2 : List Int) (v27 : Int) (a3 : S32) : List (Nat × Content) := [(448, .box 32 [.p false (iI a3.f0), .p false (iI a3.f1), .p false (R 1 e53 z53 a3.f2)])]
def spec_PlanFault.x2T (a2 : List Int) (a3 : S32) : List (Nat × AV) := [(2, .t (.c (.p false (R 1 (eI .i64) 0 a2)))), (7, .ptr 448 0)]
def spec_PlanFault.x2H (a2 : List Int) (a3 : S32) : List (Nat × Content) := [(448, .box 32 [.p false (iI a3.f0), .p false (iI a3.f1), .p false (R 1 e53 z53 a3.f2)])]
def spec_PlanFault.l2 : Nat → S32 → Int → Option (Int ⊕ Unit)
 | 0, _, _ => none
 | kq + 1, a3, v27 => if v27 ≤ 6 then ((spec_PlanFault.l3 kq a3 v27 0).bind fun x109 => match x109 with | .inl r => some (.inl r) | .inr y39 => (spec_PlanFault.l2 kq a3 (w64 (v27 + 1)))) else (some (.inr ()))
def spec_PlanFault.h4T (a2 : List Int) (v43 : Int) (a3 : S32) (t41 : List Int) : List (Nat × AV) := [(2, .t (.c (.p false (R 1 (eI .i64) 0 a2)))), (7, .ptr 448 0), (14, .t (.c (.h 8064))), (15, .t (.c (.p true (iI v43))))]
def spec_PlanFault.h4H (a2 : List Int) (v43 : Int) (a3 : S32) (t41 : List Int) : List (Nat × Content) := [(448, .box 32 [.p false (iI a3.f0), .p false (iI a3.f1), .p false (R 1 e53 z53 a3.f2)]), (8064, .row 3 1 t41.length (fun j => (eI .i64) (t41.getD j 0)) true)]
def spec_PlanFault.l4 : Nat → List Int → List Int → S32 → Int → Option Int
 | 0, _, _, _, _ => none
 | kq + 1, a2, t41, a3, v43 => if v43 < (a2.length : Int) then (if 0 ≤ v43 then ((spec_l03Has.f kq t41 (rdD 0 a2 v43)).bind fun t44 => if t44 = true then (spec_PlanFault.l4 kq a2 t41 a3 (w64 (v43 + 1))) else (some 7)) else none) else ((spec_MovesOf.f kq a3.f2).bind fun t45 => if a3.f1 = t45 then (some 0) else (some 8))
def spec_PlanFault.f (k : Nat) (a0 : S24) (a1 : List Int) (a2 : List Int) (a3 : S32) : Option Int := (spec_AskOk.f k a0 a1 a2 a3.f0).bind fun t1 => if t1 = true then ((spec_l12Form.f k a1 a3).bind fun t2 => if t2 = true then ((spec_PlanFault.l0 k a3 a0 0).bind fun x121 => match x121 with | .inl r => some r | .inr y14 => ((spec_PlanFault.l2 k a3 4).bind fun x120 => match x120 with | .inl r => some r | .inr y40 => ((spec_EndsOf.f k a3.f2).bind fun t41 => spec_PlanFault.l4 k a2 t41 a3 0))) else (some 2)) else (some 1)
theorem spec_PlanFault.go : Callable prog 41 := ⟨_, func41, by kernel_rfl, rfl⟩
theorem spec_PlanFault.ok (k : Nat) (a0 : S24) (a1 : List Int) (a2 : List Int) (a3 : S32) (r : Int) (h : spec_PlanFault.f k a0 a1 a2 a3 = some r) : VCalls prog 41 [.agg (e24 a0), .c (R 1 (eI .i64) 0 a1), .c (R 1 (eI .i64) 0 a2), .agg (e32 a3)] [.c (.p (iI r))] := by
 unfold spec_PlanFault.f at h
 refine VCalls.of (fn := f41) (N := 146) func41 rfl rfl (fun w0 => ?_)
 obtain ⟨t1, g1, h⟩ := bindN h
 let C1 := mkCon (spec_AskOk.ok k a0 a1 a2 a3.f0 t1 g1) spec_AskOk.go
 by_cases c2 : t1 = true
 ·replace h := ip c2 h
  obtain ⟨t2, g3, h⟩ := bindN h
  let C3 := mkCon (spec_l12Form.ok k a1 a3 t2 g3) spec_l12Form.go
  by_cases c4 : t2 = true
  ·replace h := ip c4 h
   have H0 : ∀ (kq : Nat) (v8 : Int) (x : (Int ⊕ Unit)), spec_PlanFault.l0 kq a3 a0 v8 = some x → (match x with | .inl r' => r' = r | .inr y14 => AG prog 41 146 [.c (.p (iI r))] w0 (exitStk (codeOf f41) 0) (mkFS (spec_PlanFault.x0T a2 a3) (spec_PlanFault.x0H a2 a3))) → AG prog 41 146 [.c (.p (iI r))] w0 (headStk (codeOf f41) 0) (mkFS (spec_PlanFault.h0T a2 v8 a0 a3) (spec_PlanFault.h0H a2 v8 a0 a3)) := by
    intro kq
    induction kq with
    | zero => intro v8 x h hx; cases h
    | succ kq ih =>
      intro v8 x h hx
      rw [spec_PlanFault.l0] at h
      by_cases c23 : v8 < (a3.f2.length : Int)
      ·replace h := ip c23 h
       obtain ⟨c24, h⟩ := ifN h
       have H1 : ∀ (kq : Nat) (v10 : Int) (x : (Int ⊕ Unit)), spec_PlanFault.l1 kq a3 v8 a0 v10 = some x → (match x with | .inl r' => r' = r | .inr y13 => AG prog 41 146 [.c (.p (iI r))] w0 (exitStk (codeOf f41) 1) (mkFS (spec_PlanFault.x1T a2 v8 a0 a3) (spec_PlanFault.x1H a2 v8 a0 a3))) → AG prog 41 146 [.c (.p (iI r))] w0 (headStk (codeOf f41) 1) (mkFS (spec_PlanFault.h1T a2 v8 a3 v10 a0) (spec_PlanFault.h1H a2 v8 a3 v10 a0)) := by
        intro kq
        induction kq with
        | zero => intro v10 x h hx; cases h
        | succ kq ih =>
          intro v10 x h hx
          rw [spec_PlanFault.l1] at h
          by_cases c32 : v10 < (((rdD z53 a3.f2 v8).f0).length : Int)
          ·replace h := ip c32 h
           obtain ⟨c33, h⟩ := ifN h
           obtain ⟨t11, g34, h⟩ := bindN h
           let C34 := mkCon (spec_FreeAt.ok kq a0 (rdD 0 ((rdD z53 a3.f2 v8).f0) v10) t11 g34) spec_FreeAt.go
           by_cases c35 : t11 = true
           ·replace h := ip c35 h
            by_cases c36 : 0 < v10
            ·replace h := ip c36 h
             obtain ⟨c37, h⟩ := ifN h
             obtain ⟨c38, h⟩ := ifN h
             by_cases c39 : (rdD 0 ((rdD z53 a3.f2 v8).f0) v10) = (rdD 0 ((rdD z53 a3.f2 v8).f0) (w64 (v10 - 1)))
             ·replace h := ip c39 h
              exact hd func41 [.b true, .call C34, .dec 53 false, .dec 56 true, .dec 68 false, .b false, .fin] (oT c32 (o1 c33 (o1 c32 (oc C34 (o1 (bnf c35) (oT c36 (o1 c33 (o1 c32 (o1 c37 (o1 c38 (o1 (bnf (decide_eq_true c39)) (o1 (rfl : false = false) on)))))))))))) (ih (w64 (v10 + 1)) _ h hx)
             ·replace h := iq c39 h
              obtain ⟨t12, g40, h⟩ := bindN h
              let C40 := mkCon (spec_Beside.ok kq a0 (rdD 0 ((rdD z53 a3.f2 v8).f0) (w64 (v10 - 1))) (rdD 0 ((rdD z53 a3.f2 v8).f0) v10) t12 g40) spec_Beside.go
              by_cases c41 : t12 = true
              ·replace h := ip c41 h
               exact hd func41 [.b true, .call C34, .dec 53 false, .dec 56 true, .dec 68 true, .call C40, .b false, .fin] (oT c32 (o1 c33 (o1 c32 (oc C34 (o1 (bnf c35) (oT c36 (o1 c33 (o1 c32 (o1 c37 (o1 c38 (o1 (bnt (decide_eq_false c39)) (o1 c37 (o1 c38 (o1 c33 (o1 c32 (oc C40 (o1 (bnf c41) on))))))))))))))))) (ih (w64 (v10 + 1)) _ h hx)
              ·replace h := iq c41 h
               cases h
               subst hx
               exact rt func41 [.b true, .call C34, .dec 53 false, .dec 56 true, .dec 68 true, .call C40, .b true, .fin] (oT c32 (o1 c33 (o1 c32 (oc C34 (o1 (bnf c35) (oT c36 (o1 c33 (o1 c32 (o1 c37 (o1 c38 (o1 (bnt (decide_eq_false c39)) (o1 c37 (o1 c38 (o1 c33 (o1 c32 (oc C40 (oN c41 on)))))))))))))))))
            ·replace h := iq c36 h
             exact hd func41 [.b true, .call C34, .dec 53 false, .dec 56 false, .b false, .fin] (oT c32 (o1 c33 (o1 c32 (oc C34 (o1 (bnf c35) (oF c36 (o1 (rfl : false = false) on))))))) (ih (w64 (v10 + 1)) _ h hx)
           ·replace h := iq c35 h
            cases h
            subst hx
            exact rt func41 [.b true, .call C34, .dec 53 true, .b true, .fin] (oT c32 (o1 c33 (o1 c32 (oc C34 (oN c35 (oR on))))))
          ·replace h := iq c32 h
           cases h
           exact st func41 [.b false, .fin] (oF c32 on) hx
       obtain ⟨x42, g42, h⟩ := bindN h
       cases x42 with
       | inl r' =>
         cases h
         exact hd func41 [.b true, .fin] (oT c23 (o1 c24 (o1 c23 on))) (H1 kq 0 _ g42 hx)
       | inr y13 =>
         refine hd func41 [.b true, .fin] (oT c23 (o1 c24 (o1 c23 on))) (H1 kq 0 _ g42 ?_)
         show AG prog 41 146 [.c (.p (iI r))] w0 (exitStk (codeOf f41) 1) (mkFS (spec_PlanFault.x1T a2 v8 a0 a3) (spec_PlanFault.x1H a2 v8 a0 a3))
         exact hd func41 [.fin] on (ih (w64 (v8 + 1)) _ h hx)
      ·replace h := iq c23 h
       cases h
       exact st func41 [.b false, .fin] (oF c23 on) hx
   obtain ⟨x121, g121, h⟩ := bindN h
   cases x121 with
   | inl r' =>
     exact hd func41 [.call C1, .b false, .call C3, .b false, .fin] (oc C1 (o1 (bnf c2) (oc C3 (o1 (bnf c4) on)))) (H0 k 0 _ g121 (Option.some.inj h))
   | inr y14 =>
     refine hd func41 [.call C1, .b false, .call C3, .b false, .fin] (oc C1 (o1 (bnf c2) (oc C3 (o1 (bnf c4) on)))) (H0 k 0 _ g121 ?_)
     show AG prog 41 146 [.c (.p (iI r))] w0 (exitStk (codeOf f41) 0) (mkFS (spec_PlanFault.x0T a2 a3) (spec_PlanFault.x0H a2 a3))
     have H2 : ∀ (kq : Nat) (v27 : Int) (x : (Int ⊕ Unit)), spec_PlanFault.l2 kq a3 v27 = some x → (match x with | .inl r' => r' = r | .inr y40 => AG prog 41 146 [.c (.p (iI r))] w0 (exitStk (codeOf f41) 2) (mkFS (spec_PlanFault.x2T a2 a3) (spec_PlanFault.x2H a2 a3))) → AG prog 41 146 [.c (.p (iI r))] w0 (headStk (codeOf f41) 2) (mkFS (spec_PlanFault.h2T a2 v27 a3) (spec_PlanFault.h2H a2 v27 a3)) := by
      intro kq
      induction kq with
      | zero => intro v27 x h hx; cases h
      | succ kq ih =>
        intro v27 x h hx
        rw [spec_PlanFault.l2] at h
        by_cases c76 : v27 ≤ 6
        ·replace h := ip c76 h
         have H3 : ∀ (kq : Nat) (v31 : Int) (x : (Int ⊕ Unit)), spec_PlanFault.l3 kq a3 v27 v31 = some x → (match x with | .inl r' => r' = r | .inr y39 => AG prog 41 146 [.c (.p (iI r))] w0 (exitStk (codeOf f41) 3) (mkFS (spec_PlanFault.x3T a2 v27 a3) (spec_PlanFault.x3H a2 v27 a3))) → AG prog 41 146 [.c (.p (iI r))] w0 (headStk (codeOf f41) 3) (mkFS (spec_PlanFault.h3T a2 v27 v31 a3) (spec_PlanFault.h3H a2 v27 v31 a3)) := by
          intro kq
          induction kq with
          | zero => intro v31 x h hx; cases h
          | succ kq ih =>
            intro v31 x h hx
            rw [spec_PlanFault.l3] at h
            by_cases c87 : v31 < a3.f0
            ·replace h := ip c87 h
             by_cases c88 : v27 = 4
             ·replace h := ip c88 h
              obtain ⟨t32, g89, h⟩ := bindN h
              let C89 := mkCon (spec_MeetAt.ok kq a3.f2 v31 t32 g89) spec_MeetAt.go
              by_cases c90 : t32 = true
              ·replace h := ip c90 h
               cases h
               subst hx
               exact rt func41 [.b true, .dec 95 true, .call C89, .dec 101 true, .b true, .fin] (oT c87 (oT c88 (oc C89 (o1 c90 (oR on)))))
              ·replace h := iq c90 h
               by_cases c91 : v27 = 5
               ·replace h := ip c91 h
                obtain ⟨t33, g92, h⟩ := bindN h
                let C92 := mkCon (spec_SwapsAt.ok kq a3.f2 v31 t33 g92) spec_SwapsAt.go
                by_cases c93 : 0 < t33
                ·replace h := ip c93 h
                 cases h
                 subst hx
                 exact rt func41 [.b true, .dec 95 true, .call C89, .dec 101 false, .dec 104 true, .call C92, .dec 112 true, .b true, .fin] (oT c87 (oT c88 (oc C89 (o1 (eqf c90) (oT c91 (oc C92 (oT c93 (oR on))))))))
                ·replace h := iq c93 h
                 by_cases c94 : v27 = 6
                 ·replace h := ip c94 h
                  obtain ⟨t34, g95, h⟩ := bindN h
                  let C95 := mkCon (spec_RingsAt.ok kq a3.f2 v31 t34 g95) spec_RingsAt.go
                  by_cases c96 : 0 < t34
                  ·replace h := ip c96 h
                   cases h
                   subst hx
                   exact rt func41 [.b true, .dec 95 true, .call C89, .dec 101 false, .dec 104 true, .call C92, .dec 112 false, .dec 115 true, .call C95, .b true, .fin] (oT c87 (oT c88 (oc C89 (o1 (eqf c90) (oT c91 (oc C92 (oF c93 (oT c94 (oc C95 (oT c96 on))))))))))
                  ·replace h := iq c96 h
                   exact hd func41 [.b true, .dec 95 true, .call C89, .dec 101 false, .dec 104 true, .call C92, .dec 112 false, .dec 115 true, .call C95, .b false, .fin] (oT c87 (oT c88 (oc C89 (o1 (eqf c90) (oT c91 (oc C92 (oF c93 (oT c94 (oc C95 (oF c96 on)))))))))) (ih (w64 (v31 + 1)) _ h hx)
                 ·replace h := iq c94 h
                  exact hd func41 [.b true, .dec 95 true, .call C89, .dec 101 false, .dec 104 true, .call C92, .dec 112 false, .dec 115 false, .b false, .fin] (oT c87 (oT c88 (oc C89 (o1 (eqf c90) (oT c91 (oc C92 (oF c93 (oF c94 (o1 (rfl : false = false) on))))))))) (ih (w64 (v31 + 1)) _ h hx)
               ·replace h := iq c91 h
                by_cases c97 : v27 = 6
                ·replace h := ip c97 h
                 obtain ⟨t35, g98, h⟩ := bindN h
                 let C98 := mkCon (spec_RingsAt.ok kq a3.f2 v31 t35 g98) spec_RingsAt.go
                 by_cases c99 : 0 < t35
                 ·replace h := ip c99 h
                  cases h
                  subst hx
                  exact rt func41 [.b true, .dec 95 true, .call C89, .dec 101 false, .dec 104 false, .dec 115 true, .call C98, .b true, .fin] (oT c87 (oT c88 (oc C89 (o1 (eqf c90) (oF c91 (oT c97 (oc C98 (oT c99 on))))))))
                 ·replace h := iq c99 h
                  exact hd func41 [.b true, .dec 95 true, .call C89, .dec 101 false, .dec 104 false, .dec 115 true, .call C98, .b false, .fin] (oT c87 (oT c88 (oc C89 (o1 (eqf c90) (oF c91 (oT c97 (oc C98 (oF c99 on)))))))) (ih (w64 (v31 + 1)) _ h hx)
                ·replace h := iq c97 h
                 exact hd func41 [.b true, .dec 95 true, .call C89, .dec 101 false, .dec 104 false, .dec 115 false, .b false, .fin] (oT c87 (oT c88 (oc C89 (o1 (eqf c90) (oF c91 (oF c97 (o1 (rfl : false = false) on))))))) (ih (w64 (v31 + 1)) _ h hx)
             ·replace h := iq c88 h
              by_cases c100 : v27 = 5
              ·replace h := ip c100 h
               obtain ⟨t36, g101, h⟩ := bindN h
               let C101 := mkCon (spec_SwapsAt.ok kq a3.f2 v31 t36 g101) spec_SwapsAt.go
               by_cases c102 : 0 < t36
               ·replace h := ip c102 h
                cases h
                subst hx
                exact rt func41 [.b true, .dec 95 false, .dec 104 true, .call C101, .dec 112 true, .b true, .fin] (oT c87 (oF c88 (oT c100 (oc C101 (oT c102 (oR on))))))
               ·replace h := iq c102 h
                by_cases c103 : v27 = 6
                ·replace h := ip c103 h
                 obtain ⟨t37, g104, h⟩ := bindN h
                 let C104 := mkCon (spec_RingsAt.ok kq a3.f2 v31 t37 g104) spec_RingsAt.go
                 by_cases c105 : 0 < t37
                 ·replace h := ip c105 h
                  cases h
                  subst hx
                  exact rt func41 [.b true, .dec 95 false, .dec 104 true, .call C101, .dec 112 false, .dec 115 true, .call C104, .b true, .fin] (oT c87 (oF c88 (oT c100 (oc C101 (oF c102 (oT c103 (oc C104 (oT c105 on))))))))
                 ·replace h := iq c105 h
                  exact hd func41 [.b true, .dec 95 false, .dec 104 true, .call C101, .dec 112 false, .dec 115 true, .call C104, .b false, .fin] (oT c87 (oF c88 (oT c100 (oc C101 (oF c102 (oT c103 (oc C104 (oF c105 on)))))))) (ih (w64 (v31 + 1)) _ h hx)
                ·replace h := iq c103 h
                 exact hd func41 [.b true, .dec 95 false, .dec 104 true, .call C101, .dec 112 false, .dec 115 false, .b false, .fin] (oT c87 (oF c88 (oT c100 (oc C101 (oF c102 (oF c103 (o1 (rfl : false = false) on))))))) (ih (w64 (v31 + 1)) _ h hx)
              ·replace h := iq c100 h
               by_cases c106 : v27 = 6
               ·replace h := ip c106 h
                obtain ⟨t38, g107, h⟩ := bindN h
                let C107 := mkCon (spec_RingsAt.ok kq a3.f2 v31 t38 g107) spec_RingsAt.go
                by_cases c108 : 0 < t38
                ·replace h := ip c108 h
                 cases h
                 subst hx
                 exact rt func41 [.b true, .dec 95 false, .dec 104 false, .dec 115 true, .call C107, .b true, .fin] (oT c87 (oF c88 (oF c100 (oT c106 (oc C107 (oT c108 on))))))
                ·replace h := iq c108 h
                 exact hd func41 [.b true, .dec 95 false, .dec 104 false, .dec 115 true, .call C107, .b false, .fin] (oT c87 (oF c88 (oF c100 (oT c106 (oc C107 (oF c108 on)))))) (ih (w64 (v31 + 1)) _ h hx)
               ·replace h := iq c106 h
                exact hd func41 [.b true, .dec 95 false, .dec 104 false, .dec 115 false, .b false, .fin] (oT c87 (oF c88 (oF c100 (oF c106 (o1 (rfl : false = false) on))))) (ih (w64 (v31 + 1)) _ h hx)
            ·replace h := iq c87 h
             cases h
             exact st func41 [.b false, .fin] (oF c87 on) hx
         obtain ⟨x109, g109, h⟩ := bindN h
         cases x109 with
         | inl r' =>
           cases h
           exact hd func41 [.b true, .fin] (oT c76 on) (H3 kq 0 _ g109 hx)
         | inr y39 =>
           refine hd func41 [.b true, .fin] (oT c76 on) (H3 kq 0 _ g109 ?_)
           show AG prog 41 146 [.c (.p (iI r))] w0 (exitStk (codeOf f41) 3) (mkFS (spec_PlanFault.x3T a2 v27 a3) (spec_PlanFault.x3H a2 v27 a3))
           exact hd func41 [.fin] on (ih (w64 (v27 + 1)) _ h hx)
        ·replace h := iq c76 h
         cases h
         exact st func41 [.b false, .fin] (oF c76 on) hx
     obtain ⟨x120, g120, h⟩ := bindN h
     cases x120 with
     | inl r' =>
       exact hd func41 [.fin] on (H2 k 4 _ g120 (Option.some.inj h))
     | inr y40 =>
       refine hd func41 [.fin] on (H2 k 4 _ g120 ?_)
       show AG prog 41 146 [.c (.p (iI r))] w0 (exitStk (codeOf f41) 2) (mkFS (spec_PlanFault.x2T a2 a3) (spec_PlanFault.x2H a2 a3))
       obtain ⟨t41, g110, h⟩ := bindN h
       let C110 := mkCon (spec_EndsOf.ok k a3.f2 t41 g110) spec_EndsOf.go
       have H4 : ∀ (kq : Nat) (v43 : Int), spec_PlanFault.l4 kq a2 t41 a3 v43 = some r → AG prog 41 146 [.c (.p (iI r))] w0 (headStk (codeOf f41) 4) (mkFS (spec_PlanFault.h4T a2 v43 a3 t41) (spec_PlanFault.h4H a2 v43 a3 t41)) := by
        intro kq
        induction kq with
        | zero => intro v43 h; cases h
        | succ kq ih =>
          intro v43 h
          rw [spec_PlanFault.l4] at h
          by_cases c114 : v43 < (a2.length : Int)
          ·replace h := ip c114 h
           obtain ⟨c115, h⟩ := ifN h
           obtain ⟨t44, g116, h⟩ := bindN h
           let C116 := mkCon (spec_l03Has.ok kq t41 (rdD 0 a2 v43) t44 g116) spec_l03Has.go
           by_cases c117 : t44 = true
           ·replace h := ip c117 h
            exact hd func41 [.b true, .call C116, .b false, .fin] (oT c114 (o1 c115 (o1 c114 (oc C116 (o1 (bnf c117) on))))) (ih (w64 (v43 + 1)) h)
           ·replace h := iq c117 h
            cases h
            exact rt func41 [.b true, .call C116, .b true, .fin] (oT c114 (o1 c115 (o1 c114 (oc C116 (oN c117 on)))))
          ·replace h := iq c114 h
           obtain ⟨t45, g118, h⟩ := bindN h
           let C118 := mkCon (spec_MovesOf.ok kq a3.f2 t45 g118) spec_MovesOf.go
           by_cases c119 : a3.f1 = t45
           ·replace h := ip c119 h
            cases h
            exact rt func41 [.b false, .fin, .call C118, .b false, .fin] (oF c114 (oc C118 (o1 (bnf (decide_eq_true c119)) on)))
           ·replace h := iq c119 h
            cases h
            exact rt func41 [.b false, .fin, .call C118, .b true, .fin] (oF c114 (oc C118 (o1 (bnt (decide_eq_false c119)) on)))
       exact hd func41 [.call C110, .fin] (oc C110 on) (H4 k 0 h)
  ·replace h := iq c4 h
   cases h
   exact rt func41 [.call C1, .b false, .call C3, .b true, .fin] (oc C1 (o1 (bnf c2) (oc C3 (oN c4 on))))
 ·replace h := iq c2 h
  cases h
  exact rt func41 [.call C1, .b true, .fin] (oc C1 (oN c2 on))
def spec_YardOk.h0T (v11 : Int) (a0 : S35) (v10 : List Int) : List (Nat × AV) := [(1, .ptr 64 0), (3, .t (.c (.h 4544))), (4, .t (.c (.p true (iI v11))))]
def spec_YardOk.h0H (v11 : Int) (a0 : S35) (v10 : List Int) : List (Nat × Content) := [(64, .box 35 [.p false (iI a0.f0.f0.f0), .p false (iI a0.f0.f0.f1), .p false (.sc (.string a0.f0.f0.f2)), .p false (iI a0.f0.f1), .p false (iI a0.f0.f2), .p false (iI a0.f0.f3), .p false (iI a0.f0.f4), .p false (R 4 e51 z51 a0.f1), .p false (iI a0.f2.f0), .p false (iI a0.f2.f1), .p false (R 1 (eI .i64) 0 a0.f2.f2), .p false (iI a0.f3), .p false (.sc (.bool a0.f4)), .p false (iI a0.f5.f0), .p false (iI a0.f5.f1), .p false (R 1 e53 z53 a0.f5.f2), .p false (R 3 e55 z55 a0.f6), .p false (R 1 (eI .i64) 0 a0.f7)]), (4544, .row 3 1 v10.length (fun j => (eI .i64) (v10.getD j 0)) true)]
def spec_YardOk.x0T (a0 : S35) (y12 : (List Int)) : List (Nat × AV) := [(1, .ptr 64 0), (3, .t (.c (.h 4544)))]
def spec_YardOk.x0H (a0 : S35) (y12 : (List Int)) : List (Nat × Content) := [(64, .box 35 [.p false (iI a0.f0.f0.f0), .p false (iI a0.f0.f0.f1), .p false (.sc (.string a0.f0.f0.f2)), .p false (iI a0.f0.f1), .p false (iI a0.f0.f2), .p false (iI a0.f0.f3), .p false (iI a0.f0.f4), .p false (R 4 e51 z51 a0.f1), .p false (iI a0.f2.f0), .p false (iI a0.f2.f1), .p false (R 1 (eI .i64) 0 a0.f2.f2), .p false (iI a0.f3), .p false (.sc (.bool a0.f4)), .p false (iI a0.f5.f0), .p false (iI a0.f5.f1), .p false (R 1 e53 z53 a0.f5.f2), .p false (R 3 e55 z55 a0.f6), .p false (R 1 (eI .i64) 0 a0.f7)]), (4544, .row 3 1 y12.length (fun j => (eI .i64) (y12.getD j 0)) true)]
def spec_YardOk.l0 : Nat → S35 → List Int → Int → Option (List Int)
 | 0, _, _, _ => none
 | kq + 1, a0, v10, v11 => if v11 < (a0.f5.f2.length : Int) then (if 0 ≤ v11 then (if 0 < (((rdD z53 a0.f5.f2 v11).f0).length : Int) then (if (v10.length + 1) * 8 ≤ 140737488355328 then (spec_YardOk.l0 kq a0 (v10 ++ [(rdD 0 ((rdD z53 a0.f5.f2 v11).f0) 0)]) (w64 (v11 + 1))) else none) else none) else none) else (some v10)
def spec_YardOk.h1T (v21 : Int) (a0 : S35) (y12 : (List Int)) (t13 : List Int) (v20 : List Int) : List (Nat × AV) := [(1, .ptr 64 0), (3, .t (.c (.h 4544))), (5, .t (.c (.h 5952))), (6, .t (.c (.h 6016))), (7, .t (.c (.p true (iI v21))))]
def spec_YardOk.h1H (v21 : Int) (a0 : S35) (y12 : (List Int)) (t13 : List Int) (v20 : List Int) : List (Nat × Content) := [(64, .box 35 [.p false (iI a0.f0.f0.f0), .p false (iI a0.f0.f0.f1), .p false (.sc (.string a0.f0.f0.f2)), .p false (iI a0.f0.f1), .p false (iI a0.f0.f2), .p false (iI a0.f0.f3), .p false (iI a0.f0.f4), .p false (R 4 e51 z51 a0.f1), .p false (iI a0.f2.f0), .p false (iI a0.f2.f1), .p false (R 1 (eI .i64) 0 a0.f2.f2), .p false (iI a0.f3), .p false (.sc (.bool a0.f4)), .p false (iI a0.f5.f0), .p false (iI a0.f5.f1), .p false (R 1 e53 z53 a0.f5.f2), .p false (R 3 e55 z55 a0.f6), .p false (R 1 (eI .i64) 0 a0.f7)]), (4544, .row 3 1 y12.length (fun j => (eI .i64) (y12.getD j 0)) true), (5952, .row 3 1 t13.length (fun j => (eI .i64) (t13.getD j 0)) true), (6016, .row 3 1 v20.length (fun j => (eI .i64) (v20.getD j 0)) true)]
def spec_YardOk.x1T (a0 : S35) (y12 : (List Int)) (t13 : List Int) (y23 : (List Int)) : List (Nat × AV) := [(1, .ptr 64 0), (3, .t (.c (.h 4544))), (5, .t (.c (.h 5952))), (6, .t (.c (.h 6016)))]
def spec_YardOk.x1H (a0 : S35) (y12 : (List Int)) (t13 : List Int) (y23 : (List Int)) : List (Nat × Content) := [(64, .box 35 [.p false (iI a0.f0.f0.f0), .p false (iI a0.f0.f0.f1), .p false (.sc (.string a0.f0.f0.f2)), .p false (iI a0.f0.f1), .p false (iI a0.f0.f2), .p false (iI a0.f0.f3), .p false (iI a0.f0.f4), .p false (R 4 e51 z51 a0.f1), .p false (iI a0.f2.f0), .p false (iI a0.f2.f1), .p false (R 1 (eI .i64) 0 a0.f2.f2), .p false (iI a0.f3), .p false (.sc (.bool a0.f4)), .p false (iI a0.f5.f0), .p false (iI a0.f5.f1), .p false (R 1 e53 z53 a0.f5.f2), .p false (R 3 e55 z55 a0.f6), .p false (R 1 (eI .i64) 0 a0.f7)]), (4544, .row 3 1 y12.length (fun j => (eI .i64) (y12.getD j 0)) true), (5952, .row 3 1 t13.length (fun j => (eI .i64) (t13.getD j 0)) true), (6016, .row 3 1 y23.length (fun j => (eI .i64) (y23.getD j 0)) true)]
def spec_YardOk.l1 : Nat → S35 → List Int → List Int → Int → Option (List Int)
 | 0, _, _, _, _ => none
 | kq + 1, a0, t13, v20, v21 => if v21 < (a0.f0.f0.f2.size : Int) then ((spec_l03Has.f kq t13 v21).bind fun t22 => if t22 = true then (spec_YardOk.l1 kq a0 t13 v20 (w64 (v21 + 1))) else (if (v20.length + 1) * 8 ≤ 140737488355328 then (spec_YardOk.l1 kq a0 t13 (v20 ++ [v21]) (w64 (v21 + 1))) else none)) else (some v20)
def spec_YardOk.h3T (v30 : Int) (v35 : Bool) (v34 : Int) (a0 : S35) (y12 : (List Int)) (t13 : List Int) (y23 : (List Int)) : List (Nat × AV) := [(1, .ptr 64 0), (3, .t (.c (.h 4544))), (5, .t (.c (.h 5952))), (6, .t (.c (.h 6016))), (8, .t (.c (.p true (iI v30)))), (9, .t (.c (.p true (.sc (.bool v35))))), (10, .t (.c (.p true (iI v34))))]
def spec_YardOk.h3H (v30 : Int) (v35 : Bool) (v34 : Int) (a0 : S35) (y12 : (List Int)) (t13 : List Int) (y23 : (List Int)) : List (Nat × Content) := [(64, .box 35 [.p false (iI a0.f0.f0.f0), .p false (iI a0.f0.f0.f1), .p false (.sc (.string a0.f0.f0.f2)), .p false (iI a0.f0.f1), .p false (iI a0.f0.f2), .p false (iI a0.f0.f3), .p false (iI a0.f0.f4), .p false (R 4 e51 z51 a0.f1), .p false (iI a0.f2.f0), .p false (iI a0.f2.f1), .p false (R 1 (eI .i64) 0 a0.f2.f2), .p false (iI a0.f3), .p false (.sc (.bool a0.f4)), .p false (iI a0.f5.f0), .p false (iI a0.f5.f1), .p false (R 1 e53 z53 a0.f5.f2), .p false (R 3 e55 z55 a0.f6), .p false (R 1 (eI .i64) 0 a0.f7)]), (4544, .row 3 1 y12.length (fun j => (eI .i64) (y12.getD j 0)) true), (5952, .row 3 1 t13.length (fun j => (eI .i64) (t13.getD j 0)) true), (6016, .row 3 1 y23.length (fun j => (eI .i64) (y23.getD j 0)) true)]
def spec_YardOk.x3T (v30 : Int) (y36 : Bool) (a0 : S35) (y12 : (List Int)) (t13 : List Int) (y23 : (List Int)) : List (Nat × AV) := [(1, .ptr 64 0), (3, .t (.c (.h 4544))), (5, .t (.c (.h 5952))), (6, .t (.c (.h 6016))), (8, .t (.c (.p true (iI v30)))), (9, .t (.c (.p true (.sc (.bool y36)))))]
def spec_YardOk.x3H (v30 : Int) (y36 : Bool) (a0 : S35) (y12 : (List Int)) (t13 : List Int) (y23 : (List Int)) : List (Nat × Content) := [(64, .box 35 [.p false (iI a0.f0.f0.f0), .p false (iI a0.f0.f0.f1), .p false (.sc (.string a0.f0.f0.f2)), .p false (iI a0.f0.f1), .p false (iI a0.f0.f2), .p false (iI a0.f0.f3), .p false (iI a0.f0.f4), .p false (R 4 e51 z51 a0.f1), .p false (iI a0.f2.f0), .p false (iI a0.f2.f1), .p false (R 1 (eI .i64) 0 a0.f2.f2), .p false (iI a0.f3), .p false (.sc (.bool a0.f4)), .p false (iI a0.f5.f0), .p false (iI a0.f5.f1), .p false (R 1 e53 z53 a0.f5.f2), .p false (R 3 e55 z55 a0.f6), .p false (R 1 (eI .i64) 0 a0.f7)]), (4544, .row 3 1 y12.length (fun j => (eI .i64) (y12.getD j 0)) true), (5952, .row 3 1 t13.length (fun j => (eI .i64) (t13.getD j 0)) true), (6016, .row 3 1 y23.length (fun j => (eI .i64) (y23.getD j 0)) true)]
def spec_YardOk.l3 : Nat → S35 → Int → Int → Bool → Option Bool
 | 0, _, _, _, _ => none
 | kq + 1, a0, v30, v34, v35 => if v34 < (a0.f6.length : Int) then (if 0 ≤ v34 then (if 0 ≤ v30 then (if (rdD z55 a0.f6 v34).f0 = (rdD z51 a0.f1 v30).f0 then (spec_YardOk.l3 kq a0 v30 (w64 (v34 + 1)) true) else (spec_YardOk.l3 kq a0 v30 (w64 (v34 + 1)) v35)) else none) else none) else (some v35)
def spec_YardOk.h2T (v30 : Int) (a0 : S35) (y12 : (List Int)) (t13 : List Int) (y23 : (List Int)) : List (Nat × AV) := [(1, .ptr 64 0), (3, .t (.c (.h 4544))), (5, .t (.c (.h 5952))), (6, .t (.c (.h 6016))), (8, .t (.c (.p true (iI v30))))]
def spec_YardOk.h2H (v30 : Int) (a0 : S35) (y12 : (List Int)) (t13 : List Int) (y23 : (List Int)) : List (Nat × Content) := [(64, .box 35 [.p false (iI a0.f0.f0.f0), .p false (iI a0.f0.f0.f1), .p false (.sc (.string a0.f0.f0.f2)), .p false (iI a0.f0.f1), .p false (iI a0.f0.f2), .p false (iI a0.f0.f3), .p false (iI a0.f0.f4), .p false (R 4 e51 z51 a0.f1), .p false (iI a0.f2.f0), .p false (iI a0.f2.f1), .p false (R 1 (eI .i64) 0 a0.f2.f2), .p false (iI a0.f3), .p false (.sc (.bool a0.f4)), .p false (iI a0.f5.f0), .p false (iI a0.f5.f1), .p false (R 1 e53 z53 a0.f5.f2), .p false (R 3 e55 z55 a0.f6), .p false (R 1 (eI .i64) 0 a0.f7)]), (4544, .row 3 1 y12.length (fun j => (eI .i64) (y12.getD j 0)) true), (5952, .row 3 1 t13.length (fun j => (eI .i64) (t13.getD j 0)) true), (6016, .row 3 1 y23.length (fun j => (eI .i64) (y23.getD j 0)) true)]
def spec_YardOk.l2 : Nat → S35 → List Int → (List Int) → (List Int) → Int → Option Bool
 | 0, _, _, _, _, _ => none
 | kq + 1, a0, t13, y23, y12, v30 => if v30 < (a0.f1.length : Int) then ((spec_YardOk.l3 kq a0 v30 0 false).bind fun y36 => (if y36 = true then (spec_YardOk.l2 kq a0 t13 y23 y12 (w64 (v30 + 1))) else (if 0 ≤ v30 then ((spec_l03Has.f kq t13 ((rdD z51 a0.f1 v30).f1)).bind fun t37 => if t37 = true then (some false) else ((spec_l03Has.f kq t13 ((rdD z51 a0.f1 v30).f2)).bind fun t38 => if t38 = true then (some false) else (spec_YardOk.l2 kq a0 t13 y23 y12 (w64 (v30 + 1))))) else none))) else ((spec_Walled.f kq a0.f0.f0 y23).bind fun t39 => (spec_PlanFault.f kq t39 y12 a0.f7 a0.f5).bind fun t40 => some (decide (t40 = 0)))
def spec_YardOk.f (k : Nat) (a0 : S35) : Option Bool := (spec_SetupOk.f k a0.f0).bind fun t1 => if t1 = true then ((spec_RobotsOk.f k a0.f0.f0 a0.f1).bind fun t2 => if t2 = true then ((spec_WindowOk.f k a0.f2).bind fun t3 => if t3 = true then (if a0.f2.f0 = a0.f0.f2 then (if a0.f2.f1 = a0.f0.f3 then ((spec_l01In.f a0.f3 0 1000000000).bind fun t4 => if t4 = true then ((spec_JobsOk.f k a0).bind fun t5 => if t5 = true then ((spec_l10Cells.f k a0.f0.f0 a0.f7).bind fun t6 => if t6 = true then (if a0.f4 = true then ((spec_YardOk.l0 k a0 ([] : List Int) 0).bind fun y12 => ((spec_Footprint.f k a0).bind fun t13 => (spec_YardOk.l1 k a0 t13 ([] : List Int) 0).bind fun y23 => (spec_YardOk.l2 k a0 t13 y23 y12 0))) else (some true)) else (some false)) else (some false)) else (some false)) else (some false)) else (some false)) else (some false)) else (some false)) else (some false)
theorem spec_YardOk.go : Callable prog 14 := ⟨_, func14, by kernel_rfl, rfl⟩
theorem spec_YardOk.ok (k : Nat) (a0 : S35) (r : Bool) (h : spec_YardOk.f k a0 = some r) : VCalls prog 14 [.agg (e35 a0)] [.c (.p (.sc (.bool r)))] := by
 unfold spec_YardOk.f at h
 refine VCalls.of (fn := f14) (N := 173) func14 rfl rfl (fun w0 => ?_)
 obtain ⟨t1, g1, h⟩ := bindN h
 let C1 := mkCon (spec_SetupOk.ok k a0.f0 t1 g1) spec_SetupOk.go
 by_cases c2 : t1 = true
 ·replace h := ip c2 h
  obtain ⟨t2, g3, h⟩ := bindN h
  let C3 := mkCon (spec_RobotsOk.ok k a0.f0.f0 a0.f1 t2 g3) spec_RobotsOk.go
  by_cases c4 : t2 = true
  ·replace h := ip c4 h
   obtain ⟨t3, g5, h⟩ := bindN h
   let C5 := mkCon (spec_WindowOk.ok k a0.f2 t3 g5) spec_WindowOk.go
   by_cases c6 : t3 = true
   ·replace h := ip c6 h
    by_cases c7 : a0.f2.f0 = a0.f0.f2
    ·replace h := ip c7 h
     by_cases c8 : a0.f2.f1 = a0.f0.f3
     ·replace h := ip c8 h
      obtain ⟨t4, g9, h⟩ := bindN h
      let C9 := mkCon (spec_l01In.ok a0.f3 0 1000000000 t4 g9) spec_l01In.go
      by_cases c10 : t4 = true
      ·replace h := ip c10 h
       obtain ⟨t5, g11, h⟩ := bindN h
       let C11 := mkCon (spec_JobsOk.ok k a0 t5 g11) spec_JobsOk.go
       by_cases c12 : t5 = true
       ·replace h := ip c12 h
        obtain ⟨t6, g13, h⟩ := bindN h
        let C13 := mkCon (spec_l10Cells.ok k a0.f0.f0 a0.f7 t6 g13) spec_l10Cells.go
        by_cases c14 : t6 = true
        ·replace h := ip c14 h
         by_cases c15 : a0.f4 = true
         ·replace h := ip c15 h
          have H0 : ∀ (kq : Nat) (v10 : List Int) (v11 : Int) (x : (List Int)), spec_YardOk.l0 kq a0 v10 v11 = some x → AG prog 14 173 [.c (.p (.sc (.bool r)))] w0 (exitStk (codeOf f14) 0) (mkFS (spec_YardOk.x0T a0 x) (spec_YardOk.x0H a0 x)) → AG prog 14 173 [.c (.p (.sc (.bool r)))] w0 (headStk (codeOf f14) 0) (mkFS (spec_YardOk.h0T v11 a0 v10) (spec_YardOk.h0H v11 a0 v10)) := by
           intro kq
           induction kq with
           | zero => intro v10 v11 x h hx; cases h
           | succ kq ih =>
             intro v10 v11 x h hx
             rw [spec_YardOk.l0] at h
             by_cases c27 : v11 < (a0.f5.f2.length : Int)
             ·replace h := ip c27 h
              obtain ⟨c28, h⟩ := ifN h
              obtain ⟨c29, h⟩ := ifN h
              obtain ⟨c30, h⟩ := ifN h
              exact hd func14 [.b true, rowe 90 (eI .i64) 0 ([(rdD 0 ((rdD z53 a0.f5.f2 v11).f0) 0)]), .aft 91, orow 4544 (eI .i64) 0 (v10 ++ [(rdD 0 ((rdD z53 a0.f5.f2 v11).f0) 0)]), .fin] (oT c27 (o1 c28 (o1 c27 (o1 (by decide : (0 : Int) ≤ 0) (o1 c29 (o1 (GE.lit 1 (eI .i64) 0 [(rdD 0 ((rdD z53 a0.f5.f2 v11).f0) 0)] (by intro x; rfl)) (o1 c30 (o1 (GE.app (e := (eI .i64)) (d := 0) v10 ([(rdD 0 ((rdD z53 a0.f5.f2 v11).f0) 0)]) rfl (fun _ _ => CE.refl _) rfl) on)))))))) (ih (v10 ++ [(rdD 0 ((rdD z53 a0.f5.f2 v11).f0) 0)]) (w64 (v11 + 1)) _ h hx)
             ·replace h := iq c27 h
              cases h
              exact st func14 [.b false, .fin] (oF c27 on) hx
          obtain ⟨y12, g84, h⟩ := bindN h
          refine hd func14 [.call C1, .dec 15 false, .call C3, .dec 24 false, .call C5, .dec 30 false, .dec 39 false, .dec 48 false, .call C9, .dec 54 false, .call C11, .dec 59 false, .call C13, .b false, .b false, rowe 71 (eI .i64) 0 ([] : List Int), .fin] (oc C1 (o1 (bnf c2) (oc C3 (o1 (bnf c4) (oc C5 (o1 (bnf c6) (o1 (bnf (decide_eq_true c7)) (o1 (bnf (decide_eq_true c8)) (oc C9 (o1 (bnf c10) (oc C11 (o1 (bnf c12) (oc C13 (o1 (bnf c14) (o1 (bnf c15) (o1 (GE.lit 1 (eI .i64) 0 ([] : List Int) (by intro x; rfl)) on)))))))))))))))) (H0 k ([] : List Int) 0 _ g84 ?_)
          obtain ⟨t13, g31, h⟩ := bindN h
          let C31 := mkCon (spec_Footprint.ok k a0 t13 g31) spec_Footprint.go
          have H1 : ∀ (kq : Nat) (v20 : List Int) (v21 : Int) (x : (List Int)), spec_YardOk.l1 kq a0 t13 v20 v21 = some x → AG prog 14 173 [.c (.p (.sc (.bool r)))] w0 (exitStk (codeOf f14) 1) (mkFS (spec_YardOk.x1T a0 y12 t13 x) (spec_YardOk.x1H a0 y12 t13 x)) → AG prog 14 173 [.c (.p (.sc (.bool r)))] w0 (headStk (codeOf f14) 1) (mkFS (spec_YardOk.h1T v21 a0 y12 t13 v20) (spec_YardOk.h1H v21 a0 y12 t13 v20)) := by
           intro kq
           induction kq with
           | zero => intro v20 v21 x h hx; cases h
           | succ kq ih =>
             intro v20 v21 x h hx
             rw [spec_YardOk.l1] at h
             by_cases c43 : v21 < (a0.f0.f0.f2.size : Int)
             ·replace h := ip c43 h
              obtain ⟨t22, g44, h⟩ := bindN h
              let C44 := mkCon (spec_l03Has.ok kq t13 v21 t22 g44) spec_l03Has.go
              by_cases c45 : t22 = true
              ·replace h := ip c45 h
               exact hd func14 [.b true, .call C44, .b false, .fin] (oT c43 (oc C44 (o1 (bnf c45) on))) (ih v20 (w64 (v21 + 1)) _ h hx)
              ·replace h := iq c45 h
               obtain ⟨c46, h⟩ := ifN h
               exact hd func14 [.b true, .call C44, .b true, rowe 110 (eI .i64) 0 ([v21]), .aft 111, orow 6016 (eI .i64) 0 (v20 ++ [v21]), .fin] (oT c43 (oc C44 (oN c45 (o1 (GE.lit 1 (eI .i64) 0 [v21] (by intro x; rfl)) (o1 c46 (o1 (GE.app (e := (eI .i64)) (d := 0) v20 ([v21]) rfl (fun _ _ => CE.refl _) rfl) on)))))) (ih (v20 ++ [v21]) (w64 (v21 + 1)) _ h hx)
             ·replace h := iq c43 h
              cases h
              exact st func14 [.b false, .fin] (oF c43 on) hx
          obtain ⟨y23, g83, h⟩ := bindN h
          refine hd func14 [.call C31, rowe 94 (eI .i64) 0 ([] : List Int), .fin] (oc C31 (o1 (GE.lit 1 (eI .i64) 0 ([] : List Int) (by intro x; rfl)) on)) (H1 k ([] : List Int) 0 _ g83 ?_)
          have H2 : ∀ (kq : Nat) (v30 : Int), spec_YardOk.l2 kq a0 t13 y23 y12 v30 = some r → AG prog 14 173 [.c (.p (.sc (.bool r)))] w0 (headStk (codeOf f14) 2) (mkFS (spec_YardOk.h2T v30 a0 y12 t13 y23) (spec_YardOk.h2H v30 a0 y12 t13 y23)) := by
           intro kq
           induction kq with
           | zero => intro v30 h; cases h
           | succ kq ih =>
             intro v30 h
             rw [spec_YardOk.l2] at h
             by_cases c59 : v30 < (a0.f1.length : Int)
             ·replace h := ip c59 h
              have H3 : ∀ (kq : Nat) (v34 : Int) (v35 : Bool) (x : Bool), spec_YardOk.l3 kq a0 v30 v34 v35 = some x → AG prog 14 173 [.c (.p (.sc (.bool r)))] w0 (exitStk (codeOf f14) 3) (mkFS (spec_YardOk.x3T v30 x a0 y12 t13 y23) (spec_YardOk.x3H v30 x a0 y12 t13 y23)) → AG prog 14 173 [.c (.p (.sc (.bool r)))] w0 (headStk (codeOf f14) 3) (mkFS (spec_YardOk.h3T v30 v35 v34 a0 y12 t13 y23) (spec_YardOk.h3H v30 v35 v34 a0 y12 t13 y23)) := by
               intro kq
               induction kq with
               | zero => intro v34 v35 x h hx; cases h
               | succ kq ih =>
                 intro v34 v35 x h hx
                 rw [spec_YardOk.l3] at h
                 by_cases c70 : v34 < (a0.f6.length : Int)
                 ·replace h := ip c70 h
                  obtain ⟨c71, h⟩ := ifN h
                  obtain ⟨c72, h⟩ := ifN h
                  by_cases c73 : (rdD z55 a0.f6 v34).f0 = (rdD z51 a0.f1 v30).f0
                  ·replace h := ip c73 h
                   exact hd func14 [.b true, .b true, .fin] (oT c70 (o1 c71 (o1 c70 (o1 c72 (o1 c59 (oT c73 on)))))) (ih (w64 (v34 + 1)) true _ h hx)
                  ·replace h := iq c73 h
                   exact hd func14 [.b true, .b false, .fin] (oT c70 (o1 c71 (o1 c70 (o1 c72 (o1 c59 (oF c73 on)))))) (ih (w64 (v34 + 1)) v35 _ h hx)
                 ·replace h := iq c70 h
                  cases h
                  exact st func14 [.b false, .fin] (oF c70 on) hx
              obtain ⟨y36, g80, h⟩ := bindN h
              refine hd func14 [.b true, .fin] (oT c59 on) (H3 kq 0 false _ g80 ?_)
              by_cases c74 : y36 = true
              ·replace h := ip c74 h
               exact hd func14 [.dec 141 false, .b false, .fin] (o1 (bnf c74) (o1 (rfl : false = false) on)) (ih (w64 (v30 + 1)) h)
              ·replace h := iq c74 h
               obtain ⟨c75, h⟩ := ifN h
               obtain ⟨t37, g76, h⟩ := bindN h
               let C76 := mkCon (spec_l03Has.ok kq t13 ((rdD z51 a0.f1 v30).f1) t37 g76) spec_l03Has.go
               by_cases c77 : t37 = true
               ·replace h := ip c77 h
                cases h
                exact rt func14 [.dec 141 true, .call C76, .dec 150 true, .b true, .fin] (oN c74 (o1 c75 (o1 c59 (oc C76 (o1 c77 (oR on))))))
               ·replace h := iq c77 h
                obtain ⟨t38, g78, h⟩ := bindN h
                let C78 := mkCon (spec_l03Has.ok kq t13 ((rdD z51 a0.f1 v30).f2) t38 g78) spec_l03Has.go
                by_cases c79 : t38 = true
                ·replace h := ip c79 h
                 cases h
                 exact rt func14 [.dec 141 true, .call C76, .dec 150 false, .call C78, .b true, .fin] (oN c74 (o1 c75 (o1 c59 (oc C76 (o1 (eqf c77) (o1 c75 (o1 c59 (oc C78 (o1 c79 on)))))))))
                ·replace h := iq c79 h
                 exact hd func14 [.dec 141 true, .call C76, .dec 150 false, .call C78, .b false, .fin] (oN c74 (o1 c75 (o1 c59 (oc C76 (o1 (eqf c77) (o1 c75 (o1 c59 (oc C78 (o1 (eqf c79) on))))))))) (ih (w64 (v30 + 1)) h)
             ·replace h := iq c59 h
              obtain ⟨t39, g81, h⟩ := bindN h
              let C81 := mkCon (spec_Walled.ok kq a0.f0.f0 y23 t39 g81) spec_Walled.go
              obtain ⟨t40, g82, h⟩ := bindN h
              let C82 := mkCon (spec_PlanFault.ok kq t39 y12 a0.f7 a0.f5 t40 g82) spec_PlanFault.go
              cases h
              exact rt func14 [.b false, .fin, .call C81, .call C82, .fin] (oF c59 (oc C81 (oc C82 on)))
          exact hd func14 [.fin] on (H2 k 0 h)
         ·replace h := iq c15 h
          cases h
          exact rt func14 [.call C1, .dec 15 false, .call C3, .dec 24 false, .call C5, .dec 30 false, .dec 39 false, .dec 48 false, .call C9, .dec 54 false, .call C11, .dec 59 false, .call C13, .b false, .b true, .fin] (oc C1 (o1 (bnf c2) (oc C3 (o1 (bnf c4) (oc C5 (o1 (bnf c6) (o1 (bnf (decide_eq_true c7)) (o1 (bnf (decide_eq_true c8)) (oc C9 (o1 (bnf c10) (oc C11 (o1 (bnf c12) (oc C13 (o1 (bnf c14) (oN c15 on)))))))))))))))
        ·replace h := iq c14 h
         cases h
         exact rt func14 [.call C1, .dec 15 false, .call C3, .dec 24 false, .call C5, .dec 30 false, .dec 39 false, .dec 48 false, .call C9, .dec 54 false, .call C11, .dec 59 false, .call C13, .b true, .fin] (oc C1 (o1 (bnf c2) (oc C3 (o1 (bnf c4) (oc C5 (o1 (bnf c6) (o1 (bnf (decide_eq_true c7)) (o1 (bnf (decide_eq_true c8)) (oc C9 (o1 (bnf c10) (oc C11 (o1 (bnf c12) (oc C13 (oN c14 on))))))))))))))
       ·replace h := iq c12 h
        cases h
        exact rt func14 [.call C1, .dec 15 false, .call C3, .dec 24 false, .call C5, .dec 30 false, .dec 39 false, .dec 48 false, .call C9, .dec 54 false, .call C11, .dec 59 true, .b true, .fin] (oc C1 (o1 (bnf c2) (oc C3 (o1 (bnf c4) (oc C5 (o1 (bnf c6) (o1 (bnf (decide_eq_true c7)) (o1 (bnf (decide_eq_true c8)) (oc C9 (o1 (bnf c10) (oc C11 (oN c12 (oR on)))))))))))))
      ·replace h := iq c10 h
       cases h
       exact rt func14 [.call C1, .dec 15 false, .call C3, .dec 24 false, .call C5, .dec 30 false, .dec 39 false, .dec 48 false, .call C9, .dec 54 true, .b true, .fin] (oc C1 (o1 (bnf c2) (oc C3 (o1 (bnf c4) (oc C5 (o1 (bnf c6) (o1 (bnf (decide_eq_true c7)) (o1 (bnf (decide_eq_true c8)) (oc C9 (oN c10 (oR on)))))))))))
     ·replace h := iq c8 h
      cases h
      exact rt func14 [.call C1, .dec 15 false, .call C3, .dec 24 false, .call C5, .dec 30 false, .dec 39 false, .dec 48 true, .b true, .fin] (oc C1 (o1 (bnf c2) (oc C3 (o1 (bnf c4) (oc C5 (o1 (bnf c6) (o1 (bnf (decide_eq_true c7)) (o1 (bnt (decide_eq_false c8)) (oR on)))))))))
    ·replace h := iq c7 h
     cases h
     exact rt func14 [.call C1, .dec 15 false, .call C3, .dec 24 false, .call C5, .dec 30 false, .dec 39 true, .b true, .fin] (oc C1 (o1 (bnf c2) (oc C3 (o1 (bnf c4) (oc C5 (o1 (bnf c6) (o1 (bnt (decide_eq_false c7)) (oR on))))))))
   ·replace h := iq c6 h
    cases h
    exact rt func14 [.call C1, .dec 15 false, .call C3, .dec 24 false, .call C5, .dec 30 true, .b true, .fin] (oc C1 (o1 (bnf c2) (oc C3 (o1 (bnf c4) (oc C5 (oN c6 (oR on)))))))
  ·replace h := iq c4 h
   cases h
   exact rt func14 [.call C1, .dec 15 false, .call C3, .dec 24 true, .b true, .fin] (oc C1 (o1 (bnf c2) (oc C3 (oN c4 (oR on)))))
 ·replace h := iq c2 h
  cases h
  exact rt func14 [.call C1, .dec 15 true, .b true, .fin] (oc C1 (oN c2 (oR on)))
def spec_YardIn.h0T (a0 : List Int) (v31 : Int) (t1 : Int × Int × Bool) (t2 : Int × Int × Bool) (u0 : Value) (v28 : Int) (v29 : Bool) (v30 : List Int) : List (Nat × AV) := [(0, .t (.c (.p false (R 1 (eI .i64) 0 a0)))), (2, .ptr 128 0), (4, .ptr 1280 0), (5, .ptr 320 0), (6, .t (.c (.h 2048))), (7, .t (.c (.p true (iI v31))))]
def spec_YardIn.h0H (a0 : List Int) (v31 : Int) (t1 : Int × Int × Bool) (t2 : Int × Int × Bool) (u0 : Value) (v28 : Int) (v29 : Bool) (v30 : List Int) : List (Nat × Content) := [(128, .box 35 [.p true (iI 0), .p true (iI 0), .p true (.sc (.string (⟨#[]⟩ : ByteArray))), .p true (iI 0), .p true (iI 0), .p true (iI 0), .p true (iI 0), .p true (.sc (.slice none 0 0)), .p true (iI 0), .p true (iI 0), .p true (.sc (.slice none 0 0)), .p true (iI 0), .p true (.sc (.bool false)), .p true (iI 0), .p true (iI 0), .p true (.sc (.slice none 0 0)), .p true (.sc (.slice none 0 0)), .p true (.sc (.slice none 0 0))]), (320, .box 35 [.p true (iI t1.1), .p true (iI t2.1), .p true (.sc (.string (⟨#[]⟩ : ByteArray))), .p true (iI 0), .p true (iI 0), .p true (iI 0), .p true (iI 0), .p true (.sc (.slice none 0 0)), .p true (iI 0), .p true (iI 0), .p true (.sc (.slice none 0 0)), .p true (iI 0), .p true (.sc (.bool false)), .p true (iI 0), .p true (iI 0), .p true (.sc (.slice none 0 0)), .p true (.sc (.slice none 0 0)), .p true (.sc (.slice none 0 0))]), (1280, .box 46 [.p false (.known u0 u0 (R 1 (eI .i64) 0 a0)), .p true (iI v28), .p true (.sc (.bool v29))]), (2048, .row 5 1 v30.length (fun j => (eI .u8) (v30.getD j 0)) true)]
def spec_YardIn.x0T (a0 : List Int) (t1 : Int × Int × Bool) (t2 : Int × Int × Bool) (u0 : Value) (y33 : Int × Bool × (List Int)) : List (Nat × AV) := [(0, .t (.c (.p false (R 1 (eI .i64) 0 a0)))), (2, .ptr 128 0), (4, .ptr 1280 0), (5, .ptr 320 0), (6, .t (.c (.h 2048)))]
def spec_YardIn.x0H (a0 : List Int) (t1 : Int × Int × Bool) (t2 : Int × Int × Bool) (u0 : Value) (y33 : Int × Bool × (List Int)) : List (Nat × Content) := [(128, .box 35 [.p true (iI 0), .p true (iI 0), .p true (.sc (.string (⟨#[]⟩ : ByteArray))), .p true (iI 0), .p true (iI 0), .p true (iI 0), .p true (iI 0), .p true (.sc (.slice none 0 0)), .p true (iI 0), .p true (iI 0), .p true (.sc (.slice none 0 0)), .p true (iI 0), .p true (.sc (.bool false)), .p true (iI 0), .p true (iI 0), .p true (.sc (.slice none 0 0)), .p true (.sc (.slice none 0 0)), .p true (.sc (.slice none 0 0))]), (320, .box 35 [.p true (iI t1.1), .p true (iI t2.1), .p true (.sc (.string (⟨#[]⟩ : ByteArray))), .p true (iI 0), .p true (iI 0), .p true (iI 0), .p true (iI 0), .p true (.sc (.slice none 0 0)), .p true (iI 0), .p true (iI 0), .p true (.sc (.slice none 0 0)), .p true (iI 0), .p true (.sc (.bool false)), .p true (iI 0), .p true (iI 0), .p true (.sc (.slice none 0 0)), .p true (.sc (.slice none 0 0)), .p true (.sc (.slice none 0 0))]), (1280, .box 46 [.p false (.known u0 u0 (R 1 (eI .i64) 0 a0)), .p true (iI y33.1), .p true (.sc (.bool y33.2.1))]), (2048, .row 5 1 y33.2.2.length (fun j => (eI .u8) (y33.2.2.getD j 0)) true)]
def spec_YardIn.l0 : Nat → (Int × Int × Bool) → (Int × Int × Bool) → List Int → Int → Bool → List Int → Int → Option (Int × Bool × (List Int))
 | 0, _, _, _, _, _, _, _ => none
 | kq + 1, t1, t2, a0, v28, v29, v30, v31 => if v31 < (w64 (t1.1 * t2.1)) then ((spec_l31Count.f a0 v28 v29 255).bind fun t32 => if (v30.length + 1) * 1 ≤ 140737488355328 then (spec_YardIn.l0 kq t1 t2 a0 t32.2.1 t32.2.2 (v30 ++ [(IntKind.u8.wrap t32.1)]) (w64 (v31 + 1))) else none) else (some (v28, v29, v30))
def spec_YardIn.h1T (a0 : List Int) (t38 : Int × Int × Bool) (v92 : Int) (t1 : Int × Int × Bool) (t2 : Int × Int × Bool) (y33 : Int × Bool × (List Int)) (t34 : Int × Int × Bool) (t35 : Int × Int × Bool) (t36 : Int × Int × Bool) (t37 : Int × Int × Bool) (u0 : Value) (v89 : Int) (v90 : Bool) (v91 : List S51) : List (Nat × AV) := [(0, .t (.c (.p false (R 1 (eI .i64) 0 a0)))), (2, .ptr 128 0), (4, .ptr 1280 0), (5, .ptr 320 0), (8, .t (.c (.p true (iI t38.1)))), (9, .t (.c (.p true (iI v92))))]
def spec_YardIn.h1H (a0 : List Int) (t38 : Int × Int × Bool) (v92 : Int) (t1 : Int × Int × Bool) (t2 : Int × Int × Bool) (y33 : Int × Bool × (List Int)) (t34 : Int × Int × Bool) (t35 : Int × Int × Bool) (t36 : Int × Int × Bool) (t37 : Int × Int × Bool) (u0 : Value) (v89 : Int) (v90 : Bool) (v91 : List S51) : List (Nat × Content) := [(128, .box 35 [.p true (iI 0), .p true (iI 0), .p true (.sc (.string (⟨#[]⟩ : ByteArray))), .p true (iI 0), .p true (iI 0), .p true (iI 0), .p true (iI 0), .p true (.sc (.slice none 0 0)), .p true (iI 0), .p true (iI 0), .p true (.sc (.slice none 0 0)), .p true (iI 0), .p true (.sc (.bool false)), .p true (iI 0), .p true (iI 0), .p true (.sc (.slice none 0 0)), .p true (.sc (.slice none 0 0)), .p true (.sc (.slice none 0 0))]), (320, .box 35 [.p true (iI t1.1), .p true (iI t2.1), .p true (.sc (.string (strOf y33.2.2))), .p true (iI t34.1), .p true (iI t35.1), .p true (iI t36.1), .p true (iI t37.1), .h 512327, .p true (iI 0), .p true (iI 0), .p true (.sc (.slice none 0 0)), .p true (iI 0), .p true (.sc (.bool false)), .p true (iI 0), .p true (iI 0), .p true (.sc (.slice none 0 0)), .p true (.sc (.slice none 0 0)), .p true (.sc (.slice none 0 0))]), (1280, .box 46 [.p false (.known u0 u0 (R 1 (eI .i64) 0 a0)), .p true (iI v89), .p true (.sc (.bool v90))]), (512327, .row 51 4 v91.length (fun j => e51 (v91.getD j z51)) true)]
def spec_YardIn.x1T (a0 : List Int) (t1 : Int × Int × Bool) (t2 : Int × Int × Bool) (y33 : Int × Bool × (List Int)) (t34 : Int × Int × Bool) (t35 : Int × Int × Bool) (t36 : Int × Int × Bool) (t37 : Int × Int × Bool) (u0 : Value) (y97 : Int × Bool × (List S51)) : List (Nat × AV) := [(0, .t (.c (.p false (R 1 (eI .i64) 0 a0)))), (2, .ptr 128 0), (4, .ptr 1280 0), (5, .ptr 320 0)]
def spec_YardIn.x1H (a0 : List Int) (t1 : Int × Int × Bool) (t2 : Int × Int × Bool) (y33 : Int × Bool × (List Int)) (t34 : Int × Int × Bool) (t35 : Int × Int × Bool) (t36 : Int × Int × Bool) (t37 : Int × Int × Bool) (u0 : Value) (y97 : Int × Bool × (List S51)) : List (Nat × Content) := [(128, .box 35 [.p true (iI 0), .p true (iI 0), .p true (.sc (.string (⟨#[]⟩ : ByteArray))), .p true (iI 0), .p true (iI 0), .p true (iI 0), .p true (iI 0), .p true (.sc (.slice none 0 0)), .p true (iI 0), .p true (iI 0), .p true (.sc (.slice none 0 0)), .p true (iI 0), .p true (.sc (.bool false)), .p true (iI 0), .p true (iI 0), .p true (.sc (.slice none 0 0)), .p true (.sc (.slice none 0 0)), .p true (.sc (.slice none 0 0))]), (320, .box 35 [.p true (iI t1.1), .p true (iI t2.1), .p true (.sc (.string (strOf y33.2.2))), .p true (iI t34.1), .p true (iI t35.1), .p true (iI t36.1), .p true (iI t37.1), .h 512327, .p true (iI 0), .p true (iI 0), .p true (.sc (.slice none 0 0)), .p true (iI 0), .p true (.sc (.bool false)), .p true (iI 0), .p true (iI 0), .p true (.sc (.slice none 0 0)), .p true (.sc (.slice none 0 0)), .p true (.sc (.slice none 0 0))]), (1280, .box 46 [.p false (.known u0 u0 (R 1 (eI .i64) 0 a0)), .p true (iI y97.1), .p true (.sc (.bool y97.2.1))]), (512327, .row 51 4 y97.2.2.length (fun j => e51 (y97.2.2.getD j z51)) true)]
def spec_YardIn.l1 : Nat → (Int × Int × Bool) → List Int → Int → Bool → List S51 → Int → Option (Int × Bool × (List S51))
 | 0, _, _, _, _, _, _ => none
 | kq + 1, t38, a0, v89, v90, v91, v92 => if v92 < t38.1 then ((spec_l31Next.f a0 v89 v90).bind fun t93 => (spec_l31Next.f a0 t93.2.1 t93.2.2).bind fun t94 => (spec_l31Next.f a0 t94.2.1 t94.2.2).bind fun t95 => (spec_l31Count.f a0 t95.2.1 t95.2.2 1).bind fun t96 => if (v91.length + 1) * 32 ≤ 140737488355328 then (spec_YardIn.l1 kq t38 a0 t96.2.1 t96.2.2 (v91 ++ [(⟨t93.1, t94.1, t95.1, (decide (t96.1 = 1))⟩ : S51)]) (w64 (v92 + 1))) else none) else (some (v89, v90, v91))
def spec_YardIn.h2T (a0 : List Int) (v127 : Int) (t1 : Int × Int × Bool) (t2 : Int × Int × Bool) (y33 : Int × Bool × (List Int)) (t34 : Int × Int × Bool) (t35 : Int × Int × Bool) (t36 : Int × Int × Bool) (t37 : Int × Int × Bool) (u0 : Value) (v124 : Int) (v125 : Bool) (y97 : Int × Bool × (List S51)) (v126 : List Int) : List (Nat × AV) := [(0, .t (.c (.p false (R 1 (eI .i64) 0 a0)))), (2, .ptr 128 0), (4, .ptr 1280 0), (5, .ptr 320 0), (11, .t (.c (.p true (iI v127))))]
def spec_YardIn.h2H (a0 : List Int) (v127 : Int) (t1 : Int × Int × Bool) (t2 : Int × Int × Bool) (y33 : Int × Bool × (List Int)) (t34 : Int × Int × Bool) (t35 : Int × Int × Bool) (t36 : Int × Int × Bool) (t37 : Int × Int × Bool) (u0 : Value) (v124 : Int) (v125 : Bool) (y97 : Int × Bool × (List S51)) (v126 : List Int) : List (Nat × Content) := [(128, .box 35 [.p true (iI 0), .p true (iI 0), .p true (.sc (.string (⟨#[]⟩ : ByteArray))), .p true (iI 0), .p true (iI 0), .p true (iI 0), .p true (iI 0), .p true (.sc (.slice none 0 0)), .p true (iI 0), .p true (iI 0), .p true (.sc (.slice none 0 0)), .p true (iI 0), .p true (.sc (.bool false)), .p true (iI 0), .p true (iI 0), .p true (.sc (.slice none 0 0)), .p true (.sc (.slice none 0 0)), .p true (.sc (.slice none 0 0))]), (320, .box 35 [.p true (iI t1.1), .p true (iI t2.1), .p true (.sc (.string (strOf y33.2.2))), .p true (iI t34.1), .p true (iI t35.1), .p true (iI t36.1), .p true (iI t37.1), .h 512327, .p true (iI t35.1), .p true (iI t36.1), .h 512330, .p true (iI 0), .p true (.sc (.bool false)), .p true (iI 0), .p true (iI 0), .p true (.sc (.slice none 0 0)), .p true (.sc (.slice none 0 0)), .p true (.sc (.slice none 0 0))]), (1280, .box 46 [.p false (.known u0 u0 (R 1 (eI .i64) 0 a0)), .p true (iI v124), .p true (.sc (.bool v125))]), (512327, .row 51 4 y97.2.2.length (fun j => e51 (y97.2.2.getD j z51)) true), (512330, .row 3 1 v126.length (fun j => (eI .i64) (v126.getD j 0)) true)]
def spec_YardIn.x2T (a0 : List Int) (t1 : Int × Int × Bool) (t2 : Int × Int × Bool) (y33 : Int × Bool × (List Int)) (t34 : Int × Int × Bool) (t35 : Int × Int × Bool) (t36 : Int × Int × Bool) (t37 : Int × Int × Bool) (u0 : Value) (y129 : Int × Bool × (List Int)) (y97 : Int × Bool × (List S51)) : List (Nat × AV) := [(0, .t (.c (.p false (R 1 (eI .i64) 0 a0)))), (2, .ptr 128 0), (4, .ptr 1280 0), (5, .ptr 320 0)]
def spec_YardIn.x2H (a0 : List Int) (t1 : Int × Int × Bool) (t2 : Int × Int × Bool) (y33 : Int × Bool × (List Int)) (t34 : Int × Int × Bool) (t35 : Int × Int × Bool) (t36 : Int × Int × Bool) (t37 : Int × Int × Bool) (u0 : Value) (y129 : Int × Bool × (List Int)) (y97 : Int × Bool × (List S51)) : List (Nat × Content) := [(128, .box 35 [.p true (iI 0), .p true (iI 0), .p true (.sc (.string (⟨#[]⟩ : ByteArray))), .p true (iI 0), .p true (iI 0), .p true (iI 0), .p true (iI 0), .p true (.sc (.slice none 0 0)), .p true (iI 0), .p true (iI 0), .p true (.sc (.slice none 0 0)), .p true (iI 0), .p true (.sc (.bool false)), .p true (iI 0), .p true (iI 0), .p true (.sc (.slice none 0 0)), .p true (.sc (.slice none 0 0)), .p true (.sc (.slice none 0 0))]), (320, .box 35 [.p true (iI t1.1), .p true (iI t2.1), .p true (.sc (.string (strOf y33.2.2))), .p true (iI t34.1), .p true (iI t35.1), .p true (iI t36.1), .p true (iI t37.1), .h 512327, .p true (iI t35.1), .p true (iI t36.1), .h 512330, .p true (iI 0), .p true (.sc (.bool false)), .p true (iI 0), .p true (iI 0), .p true (.sc (.slice none 0 0)), .p true (.sc (.slice none 0 0)), .p true (.sc (.slice none 0 0))]), (1280, .box 46 [.p false (.known u0 u0 (R 1 (eI .i64) 0 a0)), .p true (iI y129.1), .p true (.sc (.bool y129.2.1))]), (512327, .row 51 4 y97.2.2.length (fun j => e51 (y97.2.2.getD j z51)) true), (512330, .row 3 1 y129.2.2.length (fun j => (eI .i64) (y129.2.2.getD j 0)) true)]
def spec_YardIn.l2 : Nat → (Int × Int × Bool) → List Int → Int → Bool → List Int → Int → Option (Int × Bool × (List Int))
 | 0, _, _, _, _, _, _ => none
 | kq + 1, t35, a0, v124, v125, v126, v127 => if v127 < (w64 (t35.1 * 6)) then ((spec_l31Next.f a0 v124 v125).bind fun t128 => if (v126.length + 1) * 8 ≤ 140737488355328 then (spec_YardIn.l2 kq t35 a0 t128.2.1 t128.2.2 (v126 ++ [t128.1]) (w64 (v127 + 1))) else none) else (some (v124, v125, v126))
def spec_YardIn.h4T (a0 : List Int) (t134 : Int × Int × Bool) (v412 : Int) (v442 : Int) (t1 : Int × Int × Bool) (t2 : Int × Int × Bool) (y33 : Int × Bool × (List Int)) (t34 : Int × Int × Bool) (t35 : Int × Int × Bool) (t36 : Int × Int × Bool) (t37 : Int × Int × Bool) (t130 : Int × Int × Bool) (t131 : Int × Int × Bool) (t132 : Int × Int × Bool) (t133 : Int × Int × Bool) (u0 : Value) (v439 : Int) (v440 : Bool) (y97 : Int × Bool × (List S51)) (y129 : Int × Bool × (List Int)) (v411 : List S53) (v441 : List Int) : List (Nat × AV) := [(0, .t (.c (.p false (R 1 (eI .i64) 0 a0)))), (2, .ptr 128 0), (4, .ptr 1280 0), (5, .ptr 320 0), (8, .t (.c (.p true (iI t134.1)))), (12, .t (.c (.p true (iI v412)))), (13, .ptr 832 0), (14, .t (.c (.p true (iI v442))))]
def spec_YardIn.h4H (a0 : List Int) (t134 : Int × Int × Bool) (v412 : Int) (v442 : Int) (t1 : Int × Int × Bool) (t2 : Int × Int × Bool) (y33 : Int × Bool × (List Int)) (t34 : Int × Int × Bool) (t35 : Int × Int × Bool) (t36 : Int × Int × Bool) (t37 : Int × Int × Bool) (t130 : Int × Int × Bool) (t131 : Int × Int × Bool) (t132 : Int × Int × Bool) (t133 : Int × Int × Bool) (u0 : Value) (v439 : Int) (v440 : Bool) (y97 : Int × Bool × (List S51)) (y129 : Int × Bool × (List Int)) (v411 : List S53) (v441 : List Int) : List (Nat × Content) := [(128, .box 35 [.p true (iI 0), .p true (iI 0), .p true (.sc (.string (⟨#[]⟩ : ByteArray))), .p true (iI 0), .p true (iI 0), .p true (iI 0), .p true (iI 0), .p true (.sc (.slice none 0 0)), .p true (iI 0), .p true (iI 0), .p true (.sc (.slice none 0 0)), .p true (iI 0), .p true (.sc (.bool false)), .p true (iI 0), .p true (iI 0), .p true (.sc (.slice none 0 0)), .p true (.sc (.slice none 0 0)), .p true (.sc (.slice none 0 0))]), (320, .box 35 [.p true (iI t1.1), .p true (iI t2.1), .p true (.sc (.string (strOf y33.2.2))), .p true (iI t34.1), .p true (iI t35.1), .p true (iI t36.1), .p true (iI t37.1), .h 512327, .p true (iI t35.1), .p true (iI t36.1), .h 512330, .p true (iI t130.1), .p true (.sc (.bool (decide (t131.1 = 1)))), .p true (iI t132.1), .p true (iI t133.1), .hn 512335, .p true (.sc (.slice none 0 0)), .p true (.sc (.slice none 0 0))]), (832, .box 53 [.h 512832]), (1280, .box 46 [.p false (.known u0 u0 (R 1 (eI .i64) 0 a0)), .p true (iI v439), .p true (.sc (.bool v440))]), (512327, .row 51 4 y97.2.2.length (fun j => e51 (y97.2.2.getD j z51)) true), (512330, .row 3 1 y129.2.2.length (fun j => (eI .i64) (y129.2.2.getD j 0)) true), (512335, NC 53 3 S53.f0 (Value.int .i64) z53 0 v411), (512832, .row 3 1 v441.length (fun j => (eI .i64) (v441.getD j 0)) true)]
def spec_YardIn.x4T (a0 : List Int) (t134 : Int × Int × Bool) (v412 : Int) (t1 : Int × Int × Bool) (t2 : Int × Int × Bool) (y33 : Int × Bool × (List Int)) (t34 : Int × Int × Bool) (t35 : Int × Int × Bool) (t36 : Int × Int × Bool) (t37 : Int × Int × Bool) (t130 : Int × Int × Bool) (t131 : Int × Int × Bool) (t132 : Int × Int × Bool) (t133 : Int × Int × Bool) (u0 : Value) (y444 : Int × Bool × (List Int)) (y97 : Int × Bool × (List S51)) (y129 : Int × Bool × (List Int)) (v411 : List S53) : List (Nat × AV) := [(0, .t (.c (.p false (R 1 (eI .i64) 0 a0)))), (2, .ptr 128 0), (4, .ptr 1280 0), (5, .ptr 320 0), (8, .t (.c (.p true (iI t134.1)))), (12, .t (.c (.p true (iI v412)))), (13, .ptr 832 0)]
def spec_YardIn.x4H (a0 : List Int) (t134 : Int × Int × Bool) (v412 : Int) (t1 : Int × Int × Bool) (t2 : Int × Int × Bool) (y33 : Int × Bool × (List Int)) (t34 : Int × Int × Bool) (t35 : Int × Int × Bool) (t36 : Int × Int × Bool) (t37 : Int × Int × Bool) (t130 : Int × Int × Bool) (t131 : Int × Int × Bool) (t132 : Int × Int × Bool) (t133 : Int × Int × Bool) (u0 : Value) (y444 : Int × Bool × (List Int)) (y97 : Int × Bool × (List S51)) (y129 : Int × Bool × (List Int)) (v411 : List S53) : List (Nat × Content) := [(128, .box 35 [.p true (iI 0), .p true (iI 0), .p true (.sc (.string (⟨#[]⟩ : ByteArray))), .p true (iI 0), .p true (iI 0), .p true (iI 0), .p true (iI 0), .p true (.sc (.slice none 0 0)), .p true (iI 0), .p true (iI 0), .p true (.sc (.slice none 0 0)), .p true (iI 0), .p true (.sc (.bool false)), .p true (iI 0), .p true (iI 0), .p true (.sc (.slice none 0 0)), .p true (.sc (.slice none 0 0)), .p true (.sc (.slice none 0 0))]), (320, .box 35 [.p true (iI t1.1), .p true (iI t2.1), .p true (.sc (.string (strOf y33.2.2))), .p true (iI t34.1), .p true (iI t35.1), .p true (iI t36.1), .p true (iI t37.1), .h 512327, .p true (iI t35.1), .p true (iI t36.1), .h 512330, .p true (iI t130.1), .p true (.sc (.bool (decide (t131.1 = 1)))), .p true (iI t132.1), .p true (iI t133.1), .hn 512335, .p true (.sc (.slice none 0 0)), .p true (.sc (.slice none 0 0))]), (832, .box 53 [.h 512832]), (1280, .box 46 [.p false (.known u0 u0 (R 1 (eI .i64) 0 a0)), .p true (iI y444.1), .p true (.sc (.bool y444.2.1))]), (512327, .row 51 4 y97.2.2.length (fun j => e51 (y97.2.2.getD j z51)) true), (512330, .row 3 1 y129.2.2.length (fun j => (eI .i64) (y129.2.2.getD j 0)) true), (512335, NC 53 3 S53.f0 (Value.int .i64) z53 0 v411), (512832, .row 3 1 y444.2.2.length (fun j => (eI .i64) (y444.2.2.getD j 0)) true)]
def spec_YardIn.l4 : Nat → (Int × Int × Bool) → List Int → Int → Bool → List Int → Int → Option (Int × Bool × (List Int))
 | 0, _, _, _, _, _, _ => none
 | kq + 1, t132, a0, v439, v440, v441, v442 => if v442 ≤ t132.1 then ((spec_l31Next.f a0 v439 v440).bind fun t443 => if (v441.length + 1) * 8 ≤ 140737488355328 then (spec_YardIn.l4 kq t132 a0 t443.2.1 t443.2.2 (v441 ++ [t443.1]) (w64 (v442 + 1))) else none) else (some (v439, v440, v441))
def spec_YardIn.h3T (a0 : List Int) (t134 : Int × Int × Bool) (v412 : Int) (t1 : Int × Int × Bool) (t2 : Int × Int × Bool) (y33 : Int × Bool × (List Int)) (t34 : Int × Int × Bool) (t35 : Int × Int × Bool) (t36 : Int × Int × Bool) (t37 : Int × Int × Bool) (t130 : Int × Int × Bool) (t131 : Int × Int × Bool) (t132 : Int × Int × Bool) (t133 : Int × Int × Bool) (u0 : Value) (v409 : Int) (v410 : Bool) (y97 : Int × Bool × (List S51)) (y129 : Int × Bool × (List Int)) (v411 : List S53) : List (Nat × AV) := [(0, .t (.c (.p false (R 1 (eI .i64) 0 a0)))), (2, .ptr 128 0), (4, .ptr 1280 0), (5, .ptr 320 0), (8, .t (.c (.p true (iI t134.1)))), (12, .t (.c (.p true (iI v412))))]
def spec_YardIn.h3H (a0 : List Int) (t134 : Int × Int × Bool) (v412 : Int) (t1 : Int × Int × Bool) (t2 : Int × Int × Bool) (y33 : Int × Bool × (List Int)) (t34 : Int × Int × Bool) (t35 : Int × Int × Bool) (t36 : Int × Int × Bool) (t37 : Int × Int × Bool) (t130 : Int × Int × Bool) (t131 : Int × Int × Bool) (t132 : Int × Int × Bool) (t133 : Int × Int × Bool) (u0 : Value) (v409 : Int) (v410 : Bool) (y97 : Int × Bool × (List S51)) (y129 : Int × Bool × (List Int)) (v411 : List S53) : List (Nat × Content) := [(128, .box 35 [.p true (iI 0), .p true (iI 0), .p true (.sc (.string (⟨#[]⟩ : ByteArray))), .p true (iI 0), .p true (iI 0), .p true (iI 0), .p true (iI 0), .p true (.sc (.slice none 0 0)), .p true (iI 0), .p true (iI 0), .p true (.sc (.slice none 0 0)), .p true (iI 0), .p true (.sc (.bool false)), .p true (iI 0), .p true (iI 0), .p true (.sc (.slice none 0 0)), .p true (.sc (.slice none 0 0)), .p true (.sc (.slice none 0 0))]), (320, .box 35 [.p true (iI t1.1), .p true (iI t2.1), .p true (.sc (.string (strOf y33.2.2))), .p true (iI t34.1), .p true (iI t35.1), .p true (iI t36.1), .p true (iI t37.1), .h 512327, .p true (iI t35.1), .p true (iI t36.1), .h 512330, .p true (iI t130.1), .p true (.sc (.bool (decide (t131.1 = 1)))), .p true (iI t132.1), .p true (iI t133.1), .hn 512335, .p true (.sc (.slice none 0 0)), .p true (.sc (.slice none 0 0))]), (1280, .box 46 [.p false (.known u0 u0 (R 1 (eI .i64) 0 a0)), .p true (iI v409), .p true (.sc (.bool v410))]), (512327, .row 51 4 y97.2.2.length (fun j => e51 (y97.2.2.getD j z51)) true), (512330, .row 3 1 y129.2.2.length (fun j => (eI .i64) (y129.2.2.getD j 0)) true), (512335, NC 53 3 S53.f0 (Value.int .i64) z53 0 v411)]
def spec_YardIn.x3T (a0 : List Int) (t134 : Int × Int × Bool) (t1 : Int × Int × Bool) (t2 : Int × Int × Bool) (y33 : Int × Bool × (List Int)) (t34 : Int × Int × Bool) (t35 : Int × Int × Bool) (t36 : Int × Int × Bool) (t37 : Int × Int × Bool) (t130 : Int × Int × Bool) (t131 : Int × Int × Bool) (t132 : Int × Int × Bool) (t133 : Int × Int × Bool) (u0 : Value) (y445 : Int × Bool × (List S53)) (y97 : Int × Bool × (List S51)) (y129 : Int × Bool × (List Int)) : List (Nat × AV) := [(0, .t (.c (.p false (R 1 (eI .i64) 0 a0)))), (2, .ptr 128 0), (4, .ptr 1280 0), (5, .ptr 320 0), (8, .t (.c (.p true (iI t134.1))))]
def spec_YardIn.x3H (a0 : List Int) (t134 : Int × Int × Bool) (t1 : Int × Int × Bool) (t2 : Int × Int × Bool) (y33 : Int × Bool × (List Int)) (t34 : Int × Int × Bool) (t35 : Int × Int × Bool) (t36 : Int × Int × Bool) (t37 : Int × Int × Bool) (t130 : Int × Int × Bool) (t131 : Int × Int × Bool) (t132 : Int × Int × Bool) (t133 : Int × Int × Bool) (u0 : Value) (y445 : Int × Bool × (List S53)) (y97 : Int × Bool × (List S51)) (y129 : Int × Bool × (List Int)) : List (Nat × Content) := [(128, .box 35 [.p true (iI 0), .p true (iI 0), .p true (.sc (.string (⟨#[]⟩ : ByteArray))), .p true (iI 0), .p true (iI 0), .p true (iI 0), .p true (iI 0), .p true (.sc (.slice none 0 0)), .p true (iI 0), .p true (iI 0), .p true (.sc (.slice none 0 0)), .p true (iI 0), .p true (.sc (.bool false)), .p true (iI 0), .p true (iI 0), .p true (.sc (.slice none 0 0)), .p true (.sc (.slice none 0 0)), .p true (.sc (.slice none 0 0))]), (320, .box 35 [.p true (iI t1.1), .p true (iI t2.1), .p true (.sc (.string (strOf y33.2.2))), .p true (iI t34.1), .p true (iI t35.1), .p true (iI t36.1), .p true (iI t37.1), .h 512327, .p true (iI t35.1), .p true (iI t36.1), .h 512330, .p true (iI t130.1), .p true (.sc (.bool (decide (t131.1 = 1)))), .p true (iI t132.1), .p true (iI t133.1), .hn 512335, .p true (.sc (.slice none 0 0)), .p true (.sc (.slice none 0 0))]), (1280, .box 46 [.p false (.known u0 u0 (R 1 (eI .i64) 0 a0)), .p true (iI y445.1), .p true (.sc (.bool y445.2.1))]), (512327, .row 51 4 y97.2.2.length (fun j => e51 (y97.2.2.getD j z51)) true), (512330, .row 3 1 y129.2.2.length (fun j => (eI .i64) (y129.2.2.getD j 0)) true), (512335, NC 53 3 S53.f0 (Value.int .i64) z53 0 y445.2.2)]
def spec_YardIn.l3 : Nat → (Int × Int × Bool) → (Int × Int × Bool) → List Int → Int → Bool → List S53 → Int → Option (Int × Bool × (List S53))
 | 0, _, _, _, _, _, _, _ => none
 | kq + 1, t134, t132, a0, v409, v410, v411, v412 => if v412 < t134.1 then ((spec_YardIn.l4 kq t132 a0 v409 v410 ([] : List Int) 0).bind fun y444 => (if (v411.length + 1) * 24 ≤ 140737488355328 then (spec_YardIn.l3 kq t134 t132 a0 y444.1 y444.2.1 (v411 ++ [(⟨y444.2.2⟩ : S53)]) (w64 (v412 + 1))) else none)) else (some (v409, v410, v411))
def spec_YardIn.h5T (a0 : List Int) (t134 : Int × Int × Bool) (v491 : Int) (t1 : Int × Int × Bool) (t2 : Int × Int × Bool) (y33 : Int × Bool × (List Int)) (t34 : Int × Int × Bool) (t35 : Int × Int × Bool) (t36 : Int × Int × Bool) (t37 : Int × Int × Bool) (t130 : Int × Int × Bool) (t131 : Int × Int × Bool) (t132 : Int × Int × Bool) (t133 : Int × Int × Bool) (u0 : Value) (v488 : Int) (v489 : Bool) (y97 : Int × Bool × (List S51)) (y129 : Int × Bool × (List Int)) (y445 : Int × Bool × (List S53)) (v490 : List S55) : List (Nat × AV) := [(0, .t (.c (.p false (R 1 (eI .i64) 0 a0)))), (2, .ptr 128 0), (4, .ptr 1280 0), (5, .ptr 320 0), (8, .t (.c (.p true (iI t134.1)))), (15, .t (.c (.p true (iI v491))))]
def spec_YardIn.h5H (a0 : List Int) (t134 : Int × Int × Bool) (v491 : Int) (t1 : Int × Int × Bool) (t2 : Int × Int × Bool) (y33 : Int × Bool × (List Int)) (t34 : Int × Int × Bool) (t35 : Int × Int × Bool) (t36 : Int × Int × Bool) (t37 : Int × Int × Bool) (t130 : Int × Int × Bool) (t131 : Int × Int × Bool) (t132 : Int × Int × Bool) (t133 : Int × Int × Bool) (u0 : Value) (v488 : Int) (v489 : Bool) (y97 : Int × Bool × (List S51)) (y129 : Int × Bool × (List Int)) (y445 : Int × Bool × (List S53)) (v490 : List S55) : List (Nat × Content) := [(128, .box 35 [.p true (iI 0), .p true (iI 0), .p true (.sc (.string (⟨#[]⟩ : ByteArray))), .p true (iI 0), .p true (iI 0), .p true (iI 0), .p true (iI 0), .p true (.sc (.slice none 0 0)), .p true (iI 0), .p true (iI 0), .p true (.sc (.slice none 0 0)), .p true (iI 0), .p true (.sc (.bool false)), .p true (iI 0), .p true (iI 0), .p true (.sc (.slice none 0 0)), .p true (.sc (.slice none 0 0)), .p true (.sc (.slice none 0 0))]), (320, .box 35 [.p true (iI t1.1), .p true (iI t2.1), .p true (.sc (.string (strOf y33.2.2))), .p true (iI t34.1), .p true (iI t35.1), .p true (iI t36.1), .p true (iI t37.1), .h 512327, .p true (iI t35.1), .p true (iI t36.1), .h 512330, .p true (iI t130.1), .p true (.sc (.bool (decide (t131.1 = 1)))), .p true (iI t132.1), .p true (iI t133.1), .hn 512335, .h 512336, .p true (.sc (.slice none 0 0))]), (1280, .box 46 [.p false (.known u0 u0 (R 1 (eI .i64) 0 a0)), .p true (iI v488), .p true (.sc (.bool v489))]), (512327, .row 51 4 y97.2.2.length (fun j => e51 (y97.2.2.getD j z51)) true), (512330, .row 3 1 y129.2.2.length (fun j => (eI .i64) (y129.2.2.getD j 0)) true), (512335, NC 53 3 S53.f0 (Value.int .i64) z53 0 y445.2.2), (512336, .row 55 3 v490.length (fun j => e55 (v490.getD j z55)) true)]
def spec_YardIn.x5T (a0 : List Int) (t1 : Int × Int × Bool) (t2 : Int × Int × Bool) (y33 : Int × Bool × (List Int)) (t34 : Int × Int × Bool) (t35 : Int × Int × Bool) (t36 : Int × Int × Bool) (t37 : Int × Int × Bool) (t130 : Int × Int × Bool) (t131 : Int × Int × Bool) (t132 : Int × Int × Bool) (t133 : Int × Int × Bool) (u0 : Value) (y495 : Int × Bool × (List S55)) (y97 : Int × Bool × (List S51)) (y129 : Int × Bool × (List Int)) (y445 : Int × Bool × (List S53)) : List (Nat × AV) := [(0, .t (.c (.p false (R 1 (eI .i64) 0 a0)))), (2, .ptr 128 0), (4, .ptr 1280 0), (5, .ptr 320 0)]
def spec_YardIn.x5H (a0 : List Int) (t1 : Int × Int × Bool) (t2 : Int × Int × Bool) (y33 : Int × Bool × (List Int)) (t34 : Int × Int × Bool) (t35 : Int × Int × Bool) (t36 : Int × Int × Bool) (t37 : Int × Int × Bool) (t130 : Int × Int × Bool) (t131 : Int × Int × Bool) (t132 : Int × Int × Bool) (t133 : Int × Int × Bool) (u0 : Value) (y495 : Int × Bool × (List S55)) (y97 : Int × Bool × (List S51)) (y129 : Int × Bool × (List Int)) (y445 : Int × Bool × (List S53)) : List (Nat × Content) := [(128, .box 35 [.p true (iI 0), .p true (iI 0), .p true (.sc (.string (⟨#[]⟩ : ByteArray))), .p true (iI 0), .p true (iI 0), .p true (iI 0), .p true (iI 0), .p true (.sc (.slice none 0 0)), .p true (iI 0), .p true (iI 0), .p true (.sc (.slice none 0 0)), .p true (iI 0), .p true (.sc (.bool false)), .p true (iI 0), .p true (iI 0), .p true (.sc (.slice none 0 0)), .p true (.sc (.slice none 0 0)), .p true (.sc (.slice none 0 0))]), (320, .box 35 [.p true (iI t1.1), .p true (iI t2.1), .p true (.sc (.string (strOf y33.2.2))), .p true (iI t34.1), .p true (iI t35.1), .p true (iI t36.1), .p true (iI t37.1), .h 512327, .p true (iI t35.1), .p true (iI t36.1), .h 512330, .p true (iI t130.1), .p true (.sc (.bool (decide (t131.1 = 1)))), .p true (iI t132.1), .p true (iI t133.1), .hn 512335, .h 512336, .p true (.sc (.slice none 0 0))]), (1280, .box 46 [.p false (.known u0 u0 (R 1 (eI .i64) 0 a0)), .p true (iI y495.1), .p true (.sc (.bool y495.2.1))]), (512327, .row 51 4 y97.2.2.length (fun j => e51 (y97.2.2.getD j z51)) true), (512330, .row 3 1 y129.2.2.length (fun j => (eI .i64) (y129.2.2.getD j 0)) true), (512335, NC 53 3 S53.f0 (Value.int .i64) z53 0 y445.2.2), (512336, .row 55 3 y495.2.2.length (fun j => e55 (y495.2.2.getD j z55)) true)]
def spec_YardIn.l5 : Nat → (Int × Int × Bool) → List Int → Int → Bool → List S55 → Int → Option (Int × Bool × (List S55))
 | 0, _, _, _, _, _, _ => none
 | kq + 1, t134, a0, v488, v489, v490, v491 => if v491 < t134.1 then ((spec_l31Next.f a0 v488 v489).bind fun t492 => (spec_l31Next.f a0 t492.2.1 t492.2.2).bind fun t493 => (spec_l31Count.f a0 t493.2.1 t493.2.2 1).bind fun t494 => if (v490.length + 1) * 24 ≤ 140737488355328 then (spec_YardIn.l5 kq t134 a0 t494.2.1 t494.2.2 (v490 ++ [(⟨t492.1, t493.1, (decide (t494.1 = 1))⟩ : S55)]) (w64 (v491 + 1))) else none) else (some (v488, v489, v490))
def spec_YardIn.h6T (a0 : List Int) (t496 : Int × Int × Bool) (v511 : Int) (t1 : Int × Int × Bool) (t2 : Int × Int × Bool) (y33 : Int × Bool × (List Int)) (t34 : Int × Int × Bool) (t35 : Int × Int × Bool) (t36 : Int × Int × Bool) (t37 : Int × Int × Bool) (t130 : Int × Int × Bool) (t131 : Int × Int × Bool) (t132 : Int × Int × Bool) (t133 : Int × Int × Bool) (u0 : Value) (v508 : Int) (v509 : Bool) (y97 : Int × Bool × (List S51)) (y129 : Int × Bool × (List Int)) (y445 : Int × Bool × (List S53)) (y495 : Int × Bool × (List S55)) (v510 : List Int) : List (Nat × AV) := [(0, .t (.c (.p false (R 1 (eI .i64) 0 a0)))), (2, .ptr 128 0), (4, .ptr 1280 0), (5, .ptr 320 0), (8, .t (.c (.p true (iI t496.1)))), (17, .t (.c (.p true (iI v511))))]
def spec_YardIn.h6H (a0 : List Int) (t496 : Int × Int × Bool) (v511 : Int) (t1 : Int × Int × Bool) (t2 : Int × Int × Bool) (y33 : Int × Bool × (List Int)) (t34 : Int × Int × Bool) (t35 : Int × Int × Bool) (t36 : Int × Int × Bool) (t37 : Int × Int × Bool) (t130 : Int × Int × Bool) (t131 : Int × Int × Bool) (t132 : Int × Int × Bool) (t133 : Int × Int × Bool) (u0 : Value) (v508 : Int) (v509 : Bool) (y97 : Int × Bool × (List S51)) (y129 : Int × Bool × (List Int)) (y445 : Int × Bool × (List S53)) (y495 : Int × Bool × (List S55)) (v510 : List Int) : List (Nat × Content) := [(128, .box 35 [.p true (iI 0), .p true (iI 0), .p true (.sc (.string (⟨#[]⟩ : ByteArray))), .p true (iI 0), .p true (iI 0), .p true (iI 0), .p true (iI 0), .p true (.sc (.slice none 0 0)), .p true (iI 0), .p true (iI 0), .p true (.sc (.slice none 0 0)), .p true (iI 0), .p true (.sc (.bool false)), .p true (iI 0), .p true (iI 0), .p true (.sc (.slice none 0 0)), .p true (.sc (.slice none 0 0)), .p true (.sc (.slice none 0 0))]), (320, .box 35 [.p true (iI t1.1), .p true (iI t2.1), .p true (.sc (.string (strOf y33.2.2))), .p true (iI t34.1), .p true (iI t35.1), .p true (iI t36.1), .p true (iI t37.1), .h 512327, .p true (iI t35.1), .p true (iI t36.1), .h 512330, .p true (iI t130.1), .p true (.sc (.bool (decide (t131.1 = 1)))), .p true (iI t132.1), .p true (iI t133.1), .hn 512335, .h 512336, .h 512337]), (1280, .box 46 [.p false (.known u0 u0 (R 1 (eI .i64) 0 a0)), .p true (iI v508), .p true (.sc (.bool v509))]), (512327, .row 51 4 y97.2.2.length (fun j => e51 (y97.2.2.getD j z51)) true), (512330, .row 3 1 y129.2.2.length (fun j => (eI .i64) (y129.2.2.getD j 0)) true), (512335, NC 53 3 S53.f0 (Value.int .i64) z53 0 y445.2.2), (512336, .row 55 3 y495.2.2.length (fun j => e55 (y495.2.2.getD j z55)) true), (512337, .row 3 1 v510.length (fun j => (eI .i64) (v510.getD j 0)) true)]
def spec_YardIn.l6 : Nat → (Int × Int × Bool) → List Int → (Int × Int × Bool) → (Int × Int × Bool) → (Int × Bool × (List Int)) → (Int × Int × Bool) → (Int × Int × Bool) → (Int × Int × Bool) → (Int × Int × Bool) → (Int × Bool × (List S51)) → (Int × Bool × (List Int)) → (Int × Int × Bool) → (Int × Int × Bool) → (Int × Int × Bool) → (Int × Int × Bool) → (Int × Bool × (List S53)) → (Int × Bool × (List S55)) → Int → Bool → List Int → Int → Option (S35 × Bool)
 | 0, _, _, _, _, _, _, _, _, _, _, _, _, _, _, _, _, _, _, _, _, _ => none
 | kq + 1, t496, a0, t1, t2, y33, t34, t35, t36, t37, y97, y129, t130, t131, t132, t133, y445, y495, v508, v509, v510, v511 => if v511 < t496.1 then ((spec_l31Next.f a0 v508 v509).bind fun t512 => if (v510.length + 1) * 8 ≤ 140737488355328 then (spec_YardIn.l6 kq t496 a0 t1 t2 y33 t34 t35 t36 t37 y97 y129 t130 t131 t132 t133 y445 y495 t512.2.1 t512.2.2 (v510 ++ [t512.1]) (w64 (v511 + 1))) else none) else (if v509 = true then (some ((⟨(⟨(⟨0, 0, (⟨#[]⟩ : ByteArray)⟩ : S24), 0, 0, 0, 0⟩ : S26), ([] : List S51), (⟨0, 0, ([] : List Int)⟩ : S29), 0, false, (⟨0, 0, ([] : List S53)⟩ : S32), ([] : List S55), ([] : List Int)⟩ : S35), false)) else (if v508 = (a0.length : Int) then ((spec_YardOk.f kq (⟨(⟨(⟨t1.1, t2.1, (strOf y33.2.2)⟩ : S24), t34.1, t35.1, t36.1, t37.1⟩ : S26), y97.2.2, (⟨t35.1, t36.1, y129.2.2⟩ : S29), t130.1, (decide (t131.1 = 1)), (⟨t132.1, t133.1, y445.2.2⟩ : S32), y495.2.2, v510⟩ : S35)).bind fun t513 => if t513 = true then (some ((⟨(⟨(⟨t1.1, t2.1, (strOf y33.2.2)⟩ : S24), t34.1, t35.1, t36.1, t37.1⟩ : S26), y97.2.2, (⟨t35.1, t36.1, y129.2.2⟩ : S29), t130.1, (decide (t131.1 = 1)), (⟨t132.1, t133.1, y445.2.2⟩ : S32), y495.2.2, v510⟩ : S35), true)) else (some ((⟨(⟨(⟨0, 0, (⟨#[]⟩ : ByteArray)⟩ : S24), 0, 0, 0, 0⟩ : S26), ([] : List S51), (⟨0, 0, ([] : List Int)⟩ : S29), 0, false, (⟨0, 0, ([] : List S53)⟩ : S32), ([] : List S55), ([] : List Int)⟩ : S35), false))) else (some ((⟨(⟨(⟨0, 0, (⟨#[]⟩ : ByteArray)⟩ : S24), 0, 0, 0, 0⟩ : S26), ([] : List S51), (⟨0, 0, ([] : List Int)⟩ : S29), 0, false, (⟨0, 0, ([] : List S53)⟩ : S32), ([] : List S55), ([] : List Int)⟩ : S35), false))))
def spec_YardIn.f (k : Nat) (a0 : List Int) : Option (S35 × Bool) := (spec_l31Count.f a0 0 false 8).bind fun t1 => (spec_l31Count.f a0 t1.2.1 t1.2.2 8).bind fun t2 => (spec_YardIn.l0 k t1 t2 a0 t2.2.1 t2.2.2 ([] : List Int) 0).bind fun y33 => (if isBytes y33.2.2 = true then ((spec_l31Next.f a0 y33.1 y33.2.1).bind fun t34 => (spec_l31Count.f a0 t34.2.1 t34.2.2 8).bind fun t35 => (spec_l31Next.f a0 t35.2.1 t35.2.2).bind fun t36 => (spec_l31Next.f a0 t36.2.1 t36.2.2).bind fun t37 => (spec_l31Count.f a0 t37.2.1 t37.2.2 10).bind fun t38 => (spec_YardIn.l1 k t38 a0 t38.2.1 t38.2.2 ([] : List S51) 0).bind fun y97 => ((spec_YardIn.l2 k t35 a0 y97.1 y97.2.1 ([] : List Int) 0).bind fun y129 => ((spec_l31Next.f a0 y129.1 y129.2.1).bind fun t130 => (spec_l31Count.f a0 t130.2.1 t130.2.2 1).bind fun t131 => (spec_l31Count.f a0 t131.2.1 t131.2.2 20).bind fun t132 => (spec_l31Next.f a0 t132.2.1 t132.2.2).bind fun t133 => (spec_l31Count.f a0 t133.2.1 t133.2.2 10).bind fun t134 => (spec_YardIn.l3 k t134 t132 a0 t134.2.1 t134.2.2 ([] : List S53) 0).bind fun y445 => ((spec_YardIn.l5 k t134 a0 y445.1 y445.2.1 ([] : List S55) 0).bind fun y495 => ((spec_l31Count.f a0 y495.1 y495.2.1 64).bind fun t496 => spec_YardIn.l6 k t496 a0 t1 t2 y33 t34 t35 t36 t37 y97 y129 t130 t131 t132 t133 y445 y495 t496.2.1 t496.2.2 ([] : List Int) 0))))) else none)
theorem spec_YardIn.go : Callable prog 4 := ⟨_, func4, by kernel_rfl, rfl⟩
theorem spec_YardIn.ok (k : Nat) (a0 : List Int) (r : S35 × Bool) (h : spec_YardIn.f k a0 = some r) : VCalls prog 4 [.c (R 1 (eI .i64) 0 a0)] [.agg (rn35 r.1), .c (.p (.sc (.bool r.2)))] := by
 unfold spec_YardIn.f at h
 refine VCalls.name (fun u0 => ?_)
 refine VCalls.of (fn := f4) (N := 224) func4 rfl rfl (fun w0 => ?_)
 obtain ⟨t1, g1, h⟩ := bindN h
 let C1 := spec_l31Count.con u0 a0 0 false 8 t1 g1
 obtain ⟨t2, g2, h⟩ := bindN h
 let C2 := spec_l31Count.con u0 a0 t1.2.1 t1.2.2 8 t2 g2
 have H0 : ∀ (kq : Nat) (v28 : Int) (v29 : Bool) (v30 : List Int) (v31 : Int) (x : (Int × Bool × (List Int))), spec_YardIn.l0 kq t1 t2 a0 v28 v29 v30 v31 = some x → AG prog 4 224 [.agg (rn35 r.1), .c (.p (.sc (.bool r.2)))] w0 (exitStk (codeOf f4) 0) (mkFS (spec_YardIn.x0T a0 t1 t2 u0 x) (spec_YardIn.x0H a0 t1 t2 u0 x)) → AG prog 4 224 [.agg (rn35 r.1), .c (.p (.sc (.bool r.2)))] w0 (headStk (codeOf f4) 0) (mkFS (spec_YardIn.h0T a0 v31 t1 t2 u0 v28 v29 v30) (spec_YardIn.h0H a0 v31 t1 t2 u0 v28 v29 v30)) := by
  intro kq
  induction kq with
  | zero => intro v28 v29 v30 v31 x h hx; cases h
  | succ kq ih =>
    intro v28 v29 v30 v31 x h hx
    rw [spec_YardIn.l0] at h
    by_cases c24 : v31 < (w64 (t1.1 * t2.1))
    ·replace h := ip c24 h
     obtain ⟨t32, g25, h⟩ := bindN h
     let C25 := spec_l31Count.con u0 a0 v28 v29 255 t32 g25
     obtain ⟨c26, h⟩ := ifN h
     exact hd func4 [.b true, .callQ C25, rowe 50 (eI .u8) 0 ([(IntKind.u8.wrap t32.1)]), .aft 51, orow 2048 (eI .u8) 0 (v30 ++ [(IntKind.u8.wrap t32.1)]), .fin] (oT c24 (oa (scq_ C25) (o1 (GE.lit 1 (eI .u8) 0 [(IntKind.u8.wrap t32.1)] (by intro x; rfl)) (o1 c26 (o1 (GE.app (e := (eI .u8)) (d := 0) v30 ([(IntKind.u8.wrap t32.1)]) rfl (fun _ _ => CE.refl _) rfl) on))))) (ih t32.2.1 t32.2.2 (v30 ++ [(IntKind.u8.wrap t32.1)]) (w64 (v31 + 1)) _ h hx)
    ·replace h := iq c24 h
     cases h
     exact st func4 [.b false, .fin] (oF c24 on) hx
 obtain ⟨y33, g456, h⟩ := bindN h
 refine hd func4 [.reg 2, .cast 0 (R 1 (eI .i64) 0 a0), .callQ C1, .callQ C2, rowe 32 (eI .u8) 0 ([] : List Int), .fin] (o1 (VE.known u0 (R 1 (eI .i64) 0 a0)) (oa (scq_ C1) (oa (scq_ C2) (o1 (GE.lit 1 (eI .u8) 0 ([] : List Int) (by intro x; rfl)) on)))) (H0 k t2.2.1 t2.2.2 ([] : List Int) 0 _ g456 ?_)
 obtain ⟨c27, h⟩ := ifN h
 obtain ⟨t34, g28, h⟩ := bindN h
 let C28 := spec_l31Next.con u0 a0 y33.1 y33.2.1 t34 g28
 obtain ⟨t35, g29, h⟩ := bindN h
 let C29 := spec_l31Count.con u0 a0 t34.2.1 t34.2.2 8 t35 g29
 obtain ⟨t36, g30, h⟩ := bindN h
 let C30 := spec_l31Next.con u0 a0 t35.2.1 t35.2.2 t36 g30
 obtain ⟨t37, g31, h⟩ := bindN h
 let C31 := spec_l31Next.con u0 a0 t36.2.1 t36.2.2 t37 g31
 obtain ⟨t38, g32, h⟩ := bindN h
 let C32 := spec_l31Count.con u0 a0 t37.2.1 t37.2.2 10 t38 g32
 have H1 : ∀ (kq : Nat) (v89 : Int) (v90 : Bool) (v91 : List S51) (v92 : Int) (x : (Int × Bool × (List S51))), spec_YardIn.l1 kq t38 a0 v89 v90 v91 v92 = some x → AG prog 4 224 [.agg (rn35 r.1), .c (.p (.sc (.bool r.2)))] w0 (exitStk (codeOf f4) 1) (mkFS (spec_YardIn.x1T a0 t1 t2 y33 t34 t35 t36 t37 u0 x) (spec_YardIn.x1H a0 t1 t2 y33 t34 t35 t36 t37 u0 x)) → AG prog 4 224 [.agg (rn35 r.1), .c (.p (.sc (.bool r.2)))] w0 (headStk (codeOf f4) 1) (mkFS (spec_YardIn.h1T a0 t38 v92 t1 t2 y33 t34 t35 t36 t37 u0 v89 v90 v91) (spec_YardIn.h1H a0 t38 v92 t1 t2 y33 t34 t35 t36 t37 u0 v89 v90 v91)) := by
  intro kq
  induction kq with
  | zero => intro v89 v90 v91 v92 x h hx; cases h
  | succ kq ih =>
    intro v89 v90 v91 v92 x h hx
    rw [spec_YardIn.l1] at h
    by_cases c81 : v92 < t38.1
    ·replace h := ip c81 h
     obtain ⟨t93, g82, h⟩ := bindN h
     let C82 := spec_l31Next.con u0 a0 v89 v90 t93 g82
     obtain ⟨t94, g83, h⟩ := bindN h
     let C83 := spec_l31Next.con u0 a0 t93.2.1 t93.2.2 t94 g83
     obtain ⟨t95, g84, h⟩ := bindN h
     let C84 := spec_l31Next.con u0 a0 t94.2.1 t94.2.2 t95 g84
     obtain ⟨t96, g85, h⟩ := bindN h
     let C85 := spec_l31Count.con u0 a0 t95.2.1 t95.2.2 1 t96 g85
     obtain ⟨c86, h⟩ := ifN h
     exact hd func4 [.b true, .callQ C82, .callQ C83, .callQ C84, .callQ C85, rowe 96 e51 z51 ([(⟨t93.1, t94.1, t95.1, (decide (t96.1 = 1))⟩ : S51)]), .aft 97, orow 512327 e51 z51 (v91 ++ [(⟨t93.1, t94.1, t95.1, (decide (t96.1 = 1))⟩ : S51)]), .fin] (oT c81 (oa (scq_ C82) (oa (scq_ C83) (oa (scq_ C84) (oa (scq_ C85) (o1 (GE.lit 4 e51 z51 [(⟨t93.1, t94.1, t95.1, (decide (t96.1 = 1))⟩ : S51)] (by intro x; rfl)) (o1 c86 (o1 (GE.app (e := e51) (d := z51) v91 ([(⟨t93.1, t94.1, t95.1, (decide (t96.1 = 1))⟩ : S51)]) rfl (fun _ _ => CE.refl _) rfl) on)))))))) (ih t96.2.1 t96.2.2 (v91 ++ [(⟨t93.1, t94.1, t95.1, (decide (t96.1 = 1))⟩ : S51)]) (w64 (v92 + 1)) _ h hx)
    ·replace h := iq c81 h
     cases h
     exact st func4 [.b false, .fin] (oF c81 on) hx
 obtain ⟨y97, g455, h⟩ := bindN h
 refine hd func4 [.cst 53 (.sc (.string (strOf y33.2.2))), .callQ C28, .callQ C29, .callQ C30, .callQ C31, .callQ C32, .fin, .nilB 320 7 512327 51 4, orow 512327 e51 z51 ([] : List S51)] (o1 (ByOk.of c27) (o1 (VE.str y33.2.2) (oa (scq_ C28) (oa (scq_ C29) (oa (scq_ C30) (oa (scq_ C31) (oa (scq_ C32) (o1 (GE.nil e51 z51) on)))))))) (H1 k t38.2.1 t38.2.2 ([] : List S51) 0 _ g455 ?_)
 have H2 : ∀ (kq : Nat) (v124 : Int) (v125 : Bool) (v126 : List Int) (v127 : Int) (x : (Int × Bool × (List Int))), spec_YardIn.l2 kq t35 a0 v124 v125 v126 v127 = some x → AG prog 4 224 [.agg (rn35 r.1), .c (.p (.sc (.bool r.2)))] w0 (exitStk (codeOf f4) 2) (mkFS (spec_YardIn.x2T a0 t1 t2 y33 t34 t35 t36 t37 u0 x y97) (spec_YardIn.x2H a0 t1 t2 y33 t34 t35 t36 t37 u0 x y97)) → AG prog 4 224 [.agg (rn35 r.1), .c (.p (.sc (.bool r.2)))] w0 (headStk (codeOf f4) 2) (mkFS (spec_YardIn.h2T a0 v127 t1 t2 y33 t34 t35 t36 t37 u0 v124 v125 y97 v126) (spec_YardIn.h2H a0 v127 t1 t2 y33 t34 t35 t36 t37 u0 v124 v125 y97 v126)) := by
  intro kq
  induction kq with
  | zero => intro v124 v125 v126 v127 x h hx; cases h
  | succ kq ih =>
    intro v124 v125 v126 v127 x h hx
    rw [spec_YardIn.l2] at h
    by_cases c111 : v127 < (w64 (t35.1 * 6))
    ·replace h := ip c111 h
     obtain ⟨t128, g112, h⟩ := bindN h
     let C112 := spec_l31Next.con u0 a0 v124 v125 t128 g112
     obtain ⟨c113, h⟩ := ifN h
     exact hd func4 [.b true, .callQ C112, rowe 120 (eI .i64) 0 ([t128.1]), .aft 121, orow 512330 (eI .i64) 0 (v126 ++ [t128.1]), .fin] (oT c111 (oa (scq_ C112) (o1 (GE.lit 1 (eI .i64) 0 [t128.1] (by intro x; rfl)) (o1 c113 (o1 (GE.app (e := (eI .i64)) (d := 0) v126 ([t128.1]) rfl (fun _ _ => CE.refl _) rfl) on))))) (ih t128.2.1 t128.2.2 (v126 ++ [t128.1]) (w64 (v127 + 1)) _ h hx)
    ·replace h := iq c111 h
     cases h
     exact st func4 [.b false, .fin] (oF c111 on) hx
 obtain ⟨y129, g454, h⟩ := bindN h
 refine hd func4 [.fin, .nilB 320 10 512330 3 1, orow 512330 (eI .i64) 0 ([] : List Int)] (o1 (GE.nil (eI .i64) 0) on) (H2 k y97.1 y97.2.1 ([] : List Int) 0 _ g454 ?_)
 obtain ⟨t130, g114, h⟩ := bindN h
 let C114 := spec_l31Next.con u0 a0 y129.1 y129.2.1 t130 g114
 obtain ⟨t131, g115, h⟩ := bindN h
 let C115 := spec_l31Count.con u0 a0 t130.2.1 t130.2.2 1 t131 g115
 obtain ⟨t132, g116, h⟩ := bindN h
 let C116 := spec_l31Count.con u0 a0 t131.2.1 t131.2.2 20 t132 g116
 obtain ⟨t133, g117, h⟩ := bindN h
 let C117 := spec_l31Next.con u0 a0 t132.2.1 t132.2.2 t133 g117
 obtain ⟨t134, g118, h⟩ := bindN h
 let C118 := spec_l31Count.con u0 a0 t133.2.1 t133.2.2 10 t134 g118
 have H3 : ∀ (kq : Nat) (v409 : Int) (v410 : Bool) (v411 : List S53) (v412 : Int) (x : (Int × Bool × (List S53))), spec_YardIn.l3 kq t134 t132 a0 v409 v410 v411 v412 = some x → AG prog 4 224 [.agg (rn35 r.1), .c (.p (.sc (.bool r.2)))] w0 (exitStk (codeOf f4) 3) (mkFS (spec_YardIn.x3T a0 t134 t1 t2 y33 t34 t35 t36 t37 t130 t131 t132 t133 u0 x y97 y129) (spec_YardIn.x3H a0 t134 t1 t2 y33 t34 t35 t36 t37 t130 t131 t132 t133 u0 x y97 y129)) → AG prog 4 224 [.agg (rn35 r.1), .c (.p (.sc (.bool r.2)))] w0 (headStk (codeOf f4) 3) (mkFS (spec_YardIn.h3T a0 t134 v412 t1 t2 y33 t34 t35 t36 t37 t130 t131 t132 t133 u0 v409 v410 y97 y129 v411) (spec_YardIn.h3H a0 t134 v412 t1 t2 y33 t34 t35 t36 t37 t130 t131 t132 t133 u0 v409 v410 y97 y129 v411)) := by
  intro kq
  induction kq with
  | zero => intro v409 v410 v411 v412 x h hx; cases h
  | succ kq ih =>
    intro v409 v410 v411 v412 x h hx
    rw [spec_YardIn.l3] at h
    by_cases c354 : v412 < t134.1
    ·replace h := ip c354 h
     have H4 : ∀ (kq : Nat) (v439 : Int) (v440 : Bool) (v441 : List Int) (v442 : Int) (x : (Int × Bool × (List Int))), spec_YardIn.l4 kq t132 a0 v439 v440 v441 v442 = some x → AG prog 4 224 [.agg (rn35 r.1), .c (.p (.sc (.bool r.2)))] w0 (exitStk (codeOf f4) 4) (mkFS (spec_YardIn.x4T a0 t134 v412 t1 t2 y33 t34 t35 t36 t37 t130 t131 t132 t133 u0 x y97 y129 v411) (spec_YardIn.x4H a0 t134 v412 t1 t2 y33 t34 t35 t36 t37 t130 t131 t132 t133 u0 x y97 y129 v411)) → AG prog 4 224 [.agg (rn35 r.1), .c (.p (.sc (.bool r.2)))] w0 (headStk (codeOf f4) 4) (mkFS (spec_YardIn.h4T a0 t134 v412 v442 t1 t2 y33 t34 t35 t36 t37 t130 t131 t132 t133 u0 v439 v440 y97 y129 v411 v441) (spec_YardIn.h4H a0 t134 v412 v442 t1 t2 y33 t34 t35 t36 t37 t130 t131 t132 t133 u0 v439 v440 y97 y129 v411 v441)) := by
      intro kq
      induction kq with
      | zero => intro v439 v440 v441 v442 x h hx; cases h
      | succ kq ih =>
        intro v439 v440 v441 v442 x h hx
        rw [spec_YardIn.l4] at h
        by_cases c379 : v442 ≤ t132.1
        ·replace h := ip c379 h
         obtain ⟨t443, g380, h⟩ := bindN h
         let C380 := spec_l31Next.con u0 a0 v439 v440 t443 g380
         obtain ⟨c381, h⟩ := ifN h
         exact hd func4 [.b true, .callQ C380, rowe 158 (eI .i64) 0 ([t443.1]), .aft 159, orow 512832 (eI .i64) 0 (v441 ++ [t443.1]), .fin] (oT c379 (oa (scq_ C380) (o1 (GE.lit 1 (eI .i64) 0 [t443.1] (by intro x; rfl)) (o1 c381 (o1 (GE.app (e := (eI .i64)) (d := 0) v441 ([t443.1]) rfl (fun _ _ => CE.refl _) rfl) on))))) (ih t443.2.1 t443.2.2 (v441 ++ [t443.1]) (w64 (v442 + 1)) _ h hx)
        ·replace h := iq c379 h
         cases h
         exact st func4 [.b false, .fin] (oF c379 on) hx
     obtain ⟨y444, g383, h⟩ := bindN h
     refine hd func4 [.b true, .fin, .nilB 832 0 512832 3 1, orow 512832 (eI .i64) 0 ([] : List Int)] (oT c354 (o1 (GE.nil (eI .i64) 0) on)) (H4 kq v409 v410 ([] : List Int) 0 _ g383 ?_)
     obtain ⟨c382, h⟩ := ifN h
     exact hd func4 [.aft 165, nrow 10560 S53.f0 (Value.int .i64) z53 0 ([(⟨y444.2.2⟩ : S53)]), .aft 166, nrow 512335 S53.f0 (Value.int .i64) z53 0 (v411 ++ [(⟨y444.2.2⟩ : S53)]), .fin] (o1 (SC.of (e := (eI .i64)) (d := 0) y444.2.2 (by intro x; rfl)) (o1 (GEN.one S53.f0 (Value.int .i64) z53 0 (⟨y444.2.2⟩ : S53) rfl (fun _ => rfl)) (o1 c382 (o1 (GEN.app S53.f0 (Value.int .i64) z53 0 v411 ([(⟨y444.2.2⟩ : S53)])) on)))) (ih y444.1 y444.2.1 (v411 ++ [(⟨y444.2.2⟩ : S53)]) (w64 (v412 + 1)) _ h hx)
    ·replace h := iq c354 h
     cases h
     exact st func4 [.b false, .fin] (oF c354 on) hx
 obtain ⟨y445, g453, h⟩ := bindN h
 refine hd func4 [.callQ C114, .callQ C115, .callQ C116, .callQ C117, .callQ C118, .fin, .nilB 320 15 512335 53 1, .toN 512335 3, nrow 512335 S53.f0 (Value.int .i64) z53 0 ([] : List S53)] (oa (scq_ C114) (oa (scq_ C115) (oa (scq_ C116) (oa (scq_ C117) (oa (scq_ C118) (o1 (nilG.zero (fun _ => [])) (o1 (GEN.nil S53.f0 (Value.int .i64) z53 0) on))))))) (H3 k t134.2.1 t134.2.2 ([] : List S53) 0 _ g453 ?_)
 have H5 : ∀ (kq : Nat) (v488 : Int) (v489 : Bool) (v490 : List S55) (v491 : Int) (x : (Int × Bool × (List S55))), spec_YardIn.l5 kq t134 a0 v488 v489 v490 v491 = some x → AG prog 4 224 [.agg (rn35 r.1), .c (.p (.sc (.bool r.2)))] w0 (exitStk (codeOf f4) 5) (mkFS (spec_YardIn.x5T a0 t1 t2 y33 t34 t35 t36 t37 t130 t131 t132 t133 u0 x y97 y129 y445) (spec_YardIn.x5H a0 t1 t2 y33 t34 t35 t36 t37 t130 t131 t132 t133 u0 x y97 y129 y445)) → AG prog 4 224 [.agg (rn35 r.1), .c (.p (.sc (.bool r.2)))] w0 (headStk (codeOf f4) 5) (mkFS (spec_YardIn.h5T a0 t134 v491 t1 t2 y33 t34 t35 t36 t37 t130 t131 t132 t133 u0 v488 v489 y97 y129 y445 v490) (spec_YardIn.h5H a0 t134 v491 t1 t2 y33 t34 t35 t36 t37 t130 t131 t132 t133 u0 v488 v489 y97 y129 y445 v490)) := by
  intro kq
  induction kq with
  | zero => intro v488 v489 v490 v491 x h hx; cases h
  | succ kq ih =>
    intro v488 v489 v490 v491 x h hx
    rw [spec_YardIn.l5] at h
    by_cases c424 : v491 < t134.1
    ·replace h := ip c424 h
     obtain ⟨t492, g425, h⟩ := bindN h
     let C425 := spec_l31Next.con u0 a0 v488 v489 t492 g425
     obtain ⟨t493, g426, h⟩ := bindN h
     let C426 := spec_l31Next.con u0 a0 t492.2.1 t492.2.2 t493 g426
     obtain ⟨t494, g427, h⟩ := bindN h
     let C427 := spec_l31Count.con u0 a0 t493.2.1 t493.2.2 1 t494 g427
     obtain ⟨c428, h⟩ := ifN h
     exact hd func4 [.b true, .callQ C425, .callQ C426, .callQ C427, rowe 187 e55 z55 ([(⟨t492.1, t493.1, (decide (t494.1 = 1))⟩ : S55)]), .aft 188, orow 512336 e55 z55 (v490 ++ [(⟨t492.1, t493.1, (decide (t494.1 = 1))⟩ : S55)]), .fin] (oT c424 (oa (scq_ C425) (oa (scq_ C426) (oa (scq_ C427) (o1 (GE.lit 3 e55 z55 [(⟨t492.1, t493.1, (decide (t494.1 = 1))⟩ : S55)] (by intro x; rfl)) (o1 c428 (o1 (GE.app (e := e55) (d := z55) v490 ([(⟨t492.1, t493.1, (decide (t494.1 = 1))⟩ : S55)]) rfl (fun _ _ => CE.refl _) rfl) on))))))) (ih t494.2.1 t494.2.2 (v490 ++ [(⟨t492.1, t493.1, (decide (t494.1 = 1))⟩ : S55)]) (w64 (v491 + 1)) _ h hx)
    ·replace h := iq c424 h
     cases h
     exact st func4 [.b false, .fin] (oF c424 on) hx
 obtain ⟨y495, g452, h⟩ := bindN h
 refine hd func4 [.fin, .nilB 320 16 512336 55 3, orow 512336 e55 z55 ([] : List S55)] (o1 (GE.nil e55 z55) on) (H5 k y445.1 y445.2.1 ([] : List S55) 0 _ g452 ?_)
 obtain ⟨t496, g429, h⟩ := bindN h
 let C429 := spec_l31Count.con u0 a0 y495.1 y495.2.1 64 t496 g429
 have H6 : ∀ (kq : Nat) (v508 : Int) (v509 : Bool) (v510 : List Int) (v511 : Int), spec_YardIn.l6 kq t496 a0 t1 t2 y33 t34 t35 t36 t37 y97 y129 t130 t131 t132 t133 y445 y495 v508 v509 v510 v511 = some r → AG prog 4 224 [.agg (rn35 r.1), .c (.p (.sc (.bool r.2)))] w0 (headStk (codeOf f4) 6) (mkFS (spec_YardIn.h6T a0 t496 v511 t1 t2 y33 t34 t35 t36 t37 t130 t131 t132 t133 u0 v508 v509 y97 y129 y445 y495 v510) (spec_YardIn.h6H a0 t496 v511 t1 t2 y33 t34 t35 t36 t37 t130 t131 t132 t133 u0 v508 v509 y97 y129 y445 y495 v510)) := by
  intro kq
  induction kq with
  | zero => intro v508 v509 v510 v511 h; cases h
  | succ kq ih =>
    intro v508 v509 v510 v511 h
    rw [spec_YardIn.l6] at h
    by_cases c445 : v511 < t496.1
    ·replace h := ip c445 h
     obtain ⟨t512, g446, h⟩ := bindN h
     let C446 := spec_l31Next.con u0 a0 v508 v509 t512 g446
     obtain ⟨c447, h⟩ := ifN h
     exact hd func4 [.b true, .callQ C446, rowe 201 (eI .i64) 0 ([t512.1]), .aft 202, orow 512337 (eI .i64) 0 (v510 ++ [t512.1]), .fin] (oT c445 (oa (scq_ C446) (o1 (GE.lit 1 (eI .i64) 0 [t512.1] (by intro x; rfl)) (o1 c447 (o1 (GE.app (e := (eI .i64)) (d := 0) v510 ([t512.1]) rfl (fun _ _ => CE.refl _) rfl) on))))) (ih t512.2.1 t512.2.2 (v510 ++ [t512.1]) (w64 (v511 + 1)) h)
    ·replace h := iq c445 h
     by_cases c448 : v509 = true
     ·replace h := ip c448 h
      cases h
      exact rt func4 [.b false, .fin, .dec 208 true, .b true, .fin, .nilB 128 7 448135 51 4, orow 448135 e51 z51 ([] : List S51), .nilB 128 10 448138 3 1, orow 448138 (eI .i64) 0 ([] : List Int), .nilB 128 15 448143 53 1, .toN 448143 3, nrow 448143 S53.f0 (Value.int .i64) z53 0 ([] : List S53), .nilB 128 16 448144 55 3, orow 448144 e55 z55 ([] : List S55), .nilB 128 17 448145 3 1, orow 448145 (eI .i64) 0 ([] : List Int)] (oF c445 (o1 c448 (oR (o1 (GE.nil e51 z51) (o1 (GE.nil (eI .i64) 0) (o1 (nilG.zero (fun _ => [])) (o1 (GEN.nil S53.f0 (Value.int .i64) z53 0) (o1 (GE.nil e55 z55) (o1 (GE.nil (eI .i64) 0) on)))))))))
     ·replace h := iq c448 h
      by_cases c449 : v508 = (a0.length : Int)
      ·replace h := ip c449 h
       obtain ⟨t513, g450, h⟩ := bindN h
       let C450 := mkCon (spec_YardOk.ok kq (⟨(⟨(⟨t1.1, t2.1, (strOf y33.2.2)⟩ : S24), t34.1, t35.1, t36.1, t37.1⟩ : S26), y97.2.2, (⟨t35.1, t36.1, y129.2.2⟩ : S29), t130.1, (decide (t131.1 = 1)), (⟨t132.1, t133.1, y445.2.2⟩ : S32), y495.2.2, v510⟩ : S35) t513 g450) spec_YardOk.go
       by_cases c451 : t513 = true
       ·replace h := ip c451 h
        cases h
        exact rt func4 [.b false, .fin, .dec 208 false, .dec 217 false, .call C450, .b false, .fin] (oF c445 (o1 (eqf c448) (o1 (bnf (decide_eq_true c449)) (oc C450 (o1 (bnf c451) on)))))
       ·replace h := iq c451 h
        cases h
        exact rt func4 [.b false, .fin, .dec 208 false, .dec 217 false, .call C450, .b true, .fin, .nilB 128 7 448135 51 4, orow 448135 e51 z51 ([] : List S51), .nilB 128 10 448138 3 1, orow 448138 (eI .i64) 0 ([] : List Int), .nilB 128 15 448143 53 1, .toN 448143 3, nrow 448143 S53.f0 (Value.int .i64) z53 0 ([] : List S53), .nilB 128 16 448144 55 3, orow 448144 e55 z55 ([] : List S55), .nilB 128 17 448145 3 1, orow 448145 (eI .i64) 0 ([] : List Int)] (oF c445 (o1 (eqf c448) (o1 (bnf (decide_eq_true c449)) (oc C450 (oN c451 (o1 (GE.nil e51 z51) (o1 (GE.nil (eI .i64) 0) (o1 (nilG.zero (fun _ => [])) (o1 (GEN.nil S53.f0 (Value.int .i64) z53 0) (o1 (GE.nil e55 z55) (o1 (GE.nil (eI .i64) 0) on)))))))))))
      ·replace h := iq c449 h
       cases h
       exact rt func4 [.b false, .fin, .dec 208 false, .dec 217 true, .b true, .fin, .nilB 128 7 448135 51 4, orow 448135 e51 z51 ([] : List S51), .nilB 128 10 448138 3 1, orow 448138 (eI .i64) 0 ([] : List Int), .nilB 128 15 448143 53 1, .toN 448143 3, nrow 448143 S53.f0 (Value.int .i64) z53 0 ([] : List S53), .nilB 128 16 448144 55 3, orow 448144 e55 z55 ([] : List S55), .nilB 128 17 448145 3 1, orow 448145 (eI .i64) 0 ([] : List Int)] (oF c445 (o1 (eqf c448) (o1 (bnt (decide_eq_false c449)) (oR (o1 (GE.nil e51 z51) (o1 (GE.nil (eI .i64) 0) (o1 (nilG.zero (fun _ => [])) (o1 (GEN.nil S53.f0 (Value.int .i64) z53 0) (o1 (GE.nil e55 z55) (o1 (GE.nil (eI .i64) 0) on))))))))))
 exact hd func4 [.callQ C429, .fin, .nilB 320 17 512337 3 1, orow 512337 (eI .i64) 0 ([] : List Int)] (oa (scq_ C429) (o1 (GE.nil (eI .i64) 0) on)) (H6 k t496.2.1 t496.2.2 ([] : List Int) 0 h)
def impl_WindowNew.f (a0 : Int) (a1 : Int) : Option (S29 × Bool) := if a0 < 1 then (some ((⟨0, 0, ([] : List Int)⟩ : S29), false)) else (if 8 < a0 then (some ((⟨0, 0, ([] : List Int)⟩ : S29), false)) else (if a1 < 1 then (some ((⟨0, 0, ([] : List Int)⟩ : S29), false)) else (if 100 < a1 then (some ((⟨0, 0, ([] : List Int)⟩ : S29), false)) else (if 0 ≤ (w64 (a0 * 6)) then (if (w64 (a0 * 6)).toNat * 8 ≤ 140737488355328 then (some ((⟨a0, a1, (List.replicate (w64 (a0 * 6)).toNat 0)⟩ : S29), true)) else none) else none))))
theorem impl_WindowNew.go : Callable prog 84 := ⟨_, func84, by kernel_rfl, rfl⟩
theorem impl_WindowNew.ok (a0 : Int) (a1 : Int) (r : S29 × Bool) (h : impl_WindowNew.f a0 a1 = some r) : VCalls prog 84 [.c (iI a0), .c (iI a1)] [.agg (r29 r.1), .c (.p (.sc (.bool r.2)))] := by
 unfold impl_WindowNew.f at h
 refine VCalls.of (fn := f84) (N := 27) func84 rfl rfl (fun w0 => ?_)
 by_cases c1 : a0 < 1
 ·replace h := ip c1 h
  cases h
  exact rt func84 [.dec 8 true, .b true, .fin, .nilB 256 2 448258 3 1, orow 448258 (eI .i64) 0 ([] : List Int)] (oT c1 (oR (o1 (GE.nil (eI .i64) 0) on)))
 ·replace h := iq c1 h
  by_cases c2 : 8 < a0
  ·replace h := ip c2 h
   cases h
   exact rt func84 [.dec 8 false, .dec 12 true, .b true, .fin, .nilB 256 2 448258 3 1, orow 448258 (eI .i64) 0 ([] : List Int)] (oF c1 (oT c2 (oR (o1 (GE.nil (eI .i64) 0) on))))
  ·replace h := iq c2 h
   by_cases c3 : a1 < 1
   ·replace h := ip c3 h
    cases h
    exact rt func84 [.dec 8 false, .dec 12 false, .dec 16 true, .b true, .fin, .nilB 256 2 448258 3 1, orow 448258 (eI .i64) 0 ([] : List Int)] (oF c1 (oF c2 (oT c3 (oR (o1 (GE.nil (eI .i64) 0) on)))))
   ·replace h := iq c3 h
    by_cases c4 : 100 < a1
    ·replace h := ip c4 h
     cases h
     exact rt func84 [.dec 8 false, .dec 12 false, .dec 16 false, .b true, .fin, .nilB 256 2 448258 3 1, orow 448258 (eI .i64) 0 ([] : List Int)] (oF c1 (oF c2 (oF c3 (oT c4 (o1 (GE.nil (eI .i64) 0) on)))))
    ·replace h := iq c4 h
     obtain ⟨c5, h⟩ := ifN h
     obtain ⟨c6, h⟩ := ifN h
     cases h
     exact rt func84 [.dec 8 false, .dec 12 false, .dec 16 false, .b false, rowe 25 (eI .i64) 0 (List.replicate (w64 (a0 * 6)).toNat 0), .fin] (oF c1 (oF c2 (oF c3 (oF c4 (o1 (rfl : (w64 (a0 * 6)) = (w64 (a0 * 6))) (o1 c5 (o1 (mxl (b := 8) (by decide) c6) (o1 c6 (o1 (GE.rep (e := (eI .i64)) (d := 0) (w64 (a0 * 6)).toNat (CE.refl _)) on)))))))))
def impl_GridOk.h0T (v1 : Int) (a0 : S24) : List (Nat × AV) := [(1, .ptr 64 0), (3, .t (.c (.p true (iI v1))))]
def impl_GridOk.h0H (v1 : Int) (a0 : S24) : List (Nat × Content) := [(64, .box 24 [.p false (iI a0.f0), .p false (iI a0.f1), .p false (.sc (.string a0.f2))])]
def impl_GridOk.l0 : Nat → S24 → Int → Option Bool
 | 0, _, _ => none
 | kq + 1, a0, v1 => if v1 < (a0.f2.size : Int) then (if 0 ≤ v1 then (if (bt a0.f2 v1) = 46 then (impl_GridOk.l0 kq a0 (w64 (v1 + 1))) else (if (bt a0.f2 v1) = 35 then (impl_GridOk.l0 kq a0 (w64 (v1 + 1))) else (if (bt a0.f2 v1) < 97 then (if (bt a0.f2 v1) < 65 then (some false) else (if 70 < (bt a0.f2 v1) then (some false) else (impl_GridOk.l0 kq a0 (w64 (v1 + 1))))) else (if 102 < (bt a0.f2 v1) then (if (bt a0.f2 v1) < 65 then (some false) else (if 70 < (bt a0.f2 v1) then (some false) else (impl_GridOk.l0 kq a0 (w64 (v1 + 1))))) else (impl_GridOk.l0 kq a0 (w64 (v1 + 1))))))) else none) else (some true)
def impl_GridOk.f (k : Nat) (a0 : S24) : Option Bool := if a0.f0 < 1 then (some false) else (if 8 < a0.f0 then (some false) else (if a0.f1 < 1 then (some false) else (if 8 < a0.f1 then (some false) else (if (a0.f2.size : Int) = (w64 (a0.f0 * a0.f1)) then (impl_GridOk.l0 k a0 0) else (some false)))))
theorem impl_GridOk.go : Callable prog 85 := ⟨_, func85, by kernel_rfl, rfl⟩
theorem impl_GridOk.ok (k : Nat) (a0 : S24) (r : Bool) (h : impl_GridOk.f k a0 = some r) : VCalls prog 85 [.agg (e24 a0)] [.c (.p (.sc (.bool r)))] := by
 unfold impl_GridOk.f at h
 refine VCalls.of (fn := f85) (N := 67) func85 rfl rfl (fun w0 => ?_)
 by_cases c1 : a0.f0 < 1
 ·replace h := ip c1 h
  cases h
  exact rt func85 [.dec 8 true, .b true, .fin] (oT c1 (oR on))
 ·replace h := iq c1 h
  by_cases c2 : 8 < a0.f0
  ·replace h := ip c2 h
   cases h
   exact rt func85 [.dec 8 false, .dec 13 true, .b true, .fin] (oF c1 (oT c2 (oR on)))
  ·replace h := iq c2 h
   by_cases c3 : a0.f1 < 1
   ·replace h := ip c3 h
    cases h
    exact rt func85 [.dec 8 false, .dec 13 false, .dec 18 true, .b true, .fin] (oF c1 (oF c2 (oT c3 (oR on))))
   ·replace h := iq c3 h
    by_cases c4 : 8 < a0.f1
    ·replace h := ip c4 h
     cases h
     exact rt func85 [.dec 8 false, .dec 13 false, .dec 18 false, .dec 23 true, .b true, .fin] (oF c1 (oF c2 (oF c3 (oT c4 (oR on)))))
    ·replace h := iq c4 h
     by_cases c5 : (a0.f2.size : Int) = (w64 (a0.f0 * a0.f1))
     ·replace h := ip c5 h
      have H0 : ∀ (kq : Nat) (v1 : Int), impl_GridOk.l0 kq a0 v1 = some r → AG prog 85 67 [.c (.p (.sc (.bool r)))] w0 (headStk (codeOf f85) 0) (mkFS (impl_GridOk.h0T v1 a0) (impl_GridOk.h0H v1 a0)) := by
       intro kq
       induction kq with
       | zero => intro v1 h; cases h
       | succ kq ih =>
         intro v1 h
         rw [impl_GridOk.l0] at h
         by_cases c8 : v1 < (a0.f2.size : Int)
         ·replace h := ip c8 h
          obtain ⟨c9, h⟩ := ifN h
          by_cases c10 : (bt a0.f2 v1) = 46
          ·replace h := ip c10 h
           exact hd func85 [.b true, .dec 47 false, .b false, .fin] (oT c8 (o1 c9 (o1 c8 (o1 (bnf (decide_eq_true c10)) (o1 (rfl : false = false) on))))) (ih (w64 (v1 + 1)) h)
          ·replace h := iq c10 h
           by_cases c11 : (bt a0.f2 v1) = 35
           ·replace h := ip c11 h
            exact hd func85 [.b true, .dec 47 true, .dec 51 false, .b false, .fin] (oT c8 (o1 c9 (o1 c8 (o1 (bnt (decide_eq_false c10)) (o1 (bnf (decide_eq_true c11)) (o1 (rfl : false = false) on)))))) (ih (w64 (v1 + 1)) h)
           ·replace h := iq c11 h
            by_cases c12 : (bt a0.f2 v1) < 97
            ·replace h := ip c12 h
             by_cases c13 : (bt a0.f2 v1) < 65
             ·replace h := ip c13 h
              cases h
              exact rt func85 [.b true, .dec 47 true, .dec 51 true, .dec 54 true, .dec 62 true, .b true, .fin] (oT c8 (o1 c9 (o1 c8 (o1 (bnt (decide_eq_false c10)) (o1 (bnt (decide_eq_false c11)) (oT c12 (oT c13 (oR on))))))))
             ·replace h := iq c13 h
              by_cases c14 : 70 < (bt a0.f2 v1)
              ·replace h := ip c14 h
               cases h
               exact rt func85 [.b true, .dec 47 true, .dec 51 true, .dec 54 true, .dec 62 false, .b true, .fin] (oT c8 (o1 c9 (o1 c8 (o1 (bnt (decide_eq_false c10)) (o1 (bnt (decide_eq_false c11)) (oT c12 (oF c13 (oT c14 on))))))))
              ·replace h := iq c14 h
               exact hd func85 [.b true, .dec 47 true, .dec 51 true, .dec 54 true, .dec 62 false, .b false, .fin] (oT c8 (o1 c9 (o1 c8 (o1 (bnt (decide_eq_false c10)) (o1 (bnt (decide_eq_false c11)) (oT c12 (oF c13 (oF c14 on)))))))) (ih (w64 (v1 + 1)) h)
            ·replace h := iq c12 h
             by_cases c15 : 102 < (bt a0.f2 v1)
             ·replace h := ip c15 h
              by_cases c16 : (bt a0.f2 v1) < 65
              ·replace h := ip c16 h
               cases h
               exact rt func85 [.b true, .dec 47 true, .dec 51 true, .dec 54 false, .dec 59 true, .dec 62 true, .b true, .fin] (oT c8 (o1 c9 (o1 c8 (o1 (bnt (decide_eq_false c10)) (o1 (bnt (decide_eq_false c11)) (oF c12 (oT c15 (oT c16 (oR on)))))))))
              ·replace h := iq c16 h
               by_cases c17 : 70 < (bt a0.f2 v1)
               ·replace h := ip c17 h
                cases h
                exact rt func85 [.b true, .dec 47 true, .dec 51 true, .dec 54 false, .dec 59 true, .dec 62 false, .b true, .fin] (oT c8 (o1 c9 (o1 c8 (o1 (bnt (decide_eq_false c10)) (o1 (bnt (decide_eq_false c11)) (oF c12 (oT c15 (oF c16 (oT c17 on)))))))))
               ·replace h := iq c17 h
                exact hd func85 [.b true, .dec 47 true, .dec 51 true, .dec 54 false, .dec 59 true, .dec 62 false, .b false, .fin] (oT c8 (o1 c9 (o1 c8 (o1 (bnt (decide_eq_false c10)) (o1 (bnt (decide_eq_false c11)) (oF c12 (oT c15 (oF c16 (oF c17 on))))))))) (ih (w64 (v1 + 1)) h)
             ·replace h := iq c15 h
              exact hd func85 [.b true, .dec 47 true, .dec 51 true, .dec 54 false, .dec 59 false, .b false, .fin] (oT c8 (o1 c9 (o1 c8 (o1 (bnt (decide_eq_false c10)) (o1 (bnt (decide_eq_false c11)) (oF c12 (oF c15 (o1 (rfl : false = false) on)))))))) (ih (w64 (v1 + 1)) h)
         ·replace h := iq c8 h
          cases h
          exact rt func85 [.b false, .fin, .fin] (oF c8 on)
      exact hd func85 [.dec 8 false, .dec 13 false, .dec 18 false, .dec 23 false, .b false, .fin] (oF c1 (oF c2 (oF c3 (oF c4 (o1 (bnf (decide_eq_true c5)) on))))) (H0 k 0 h)
     ·replace h := iq c5 h
      cases h
      exact rt func85 [.dec 8 false, .dec 13 false, .dec 18 false, .dec 23 false, .b true, .fin] (oF c1 (oF c2 (oF c3 (oF c4 (o1 (bnt (decide_eq_false c5)) on)))))
def impl_SetupOk.f (k : Nat) (a0 : S26) : Option Bool := (impl_WindowNew.f a0.f2 a0.f3).bind fun t1 => (impl_GridOk.f k a0.f0).bind fun t2 => if t2 = true then (if 1 ≤ a0.f1 then (if a0.f1 ≤ 20 then (if t1.2 = true then (if 0 ≤ a0.f4 then (some (decide (a0.f4 ≤ 20))) else (some false)) else (some false)) else (some false)) else (some false)) else (some false)
theorem impl_SetupOk.go : Callable prog 46 := ⟨_, func46, by kernel_rfl, rfl⟩
theorem impl_SetupOk.ok (k : Nat) (a0 : S26) (r : Bool) (h : impl_SetupOk.f k a0 = some r) : VCalls prog 46 [.agg (e26 a0)] [.c (.p (.sc (.bool r)))] := by
 unfold impl_SetupOk.f at h
 refine VCalls.of (fn := f46) (N := 39) func46 rfl rfl (fun w0 => ?_)
 obtain ⟨t1, g1, h⟩ := bindN h
 let C1 := mkCon (impl_WindowNew.ok a0.f2 a0.f3 t1 g1) impl_WindowNew.go
 obtain ⟨t2, g2, h⟩ := bindN h
 let C2 := mkCon (impl_GridOk.ok k a0.f0 t2 g2) impl_GridOk.go
 by_cases c3 : t2 = true
 ·replace h := ip c3 h
  by_cases c4 : 1 ≤ a0.f1
  ·replace h := ip c4 h
   by_cases c5 : a0.f1 ≤ 20
   ·replace h := ip c5 h
    by_cases c6 : t1.2 = true
    ·replace h := ip c6 h
     by_cases c7 : 0 ≤ a0.f4
     ·replace h := ip c7 h
      cases h
      exact rt func46 [.call C1, .call C2, .dec 16 true, .dec 21 true, .dec 26 true, .dec 29 true, .dec 34 true, .fin] (oc C1 (oc C2 (o1 c3 (oT c4 (oT c5 (o1 c6 (oT c7 on)))))))
     ·replace h := iq c7 h
      cases h
      exact rt func46 [.call C1, .call C2, .dec 16 true, .dec 21 true, .dec 26 true, .dec 29 true, .dec 34 false, .fin] (oc C1 (oc C2 (o1 c3 (oT c4 (oT c5 (o1 c6 (oF c7 on)))))))
    ·replace h := iq c6 h
     cases h
     exact rt func46 [.call C1, .call C2, .dec 16 true, .dec 21 true, .dec 26 true, .dec 29 false, .fin] (oc C1 (oc C2 (o1 c3 (oT c4 (oT c5 (o1 (eqf c6) on))))))
   ·replace h := iq c5 h
    cases h
    exact rt func46 [.call C1, .call C2, .dec 16 true, .dec 21 true, .dec 26 false, .fin] (oc C1 (oc C2 (o1 c3 (oT c4 (oF c5 on)))))
  ·replace h := iq c4 h
   cases h
   exact rt func46 [.call C1, .call C2, .dec 16 true, .dec 21 false, .fin] (oc C1 (oc C2 (o1 c3 (oF c4 on))))
 ·replace h := iq c3 h
  cases h
  exact rt func46 [.call C1, .call C2, .dec 16 false, .fin] (oc C1 (oc C2 (o1 (eqf c3) on)))
def impl_isFree.f (a0 : S24) (a1 : Int) : Option Bool := if 0 ≤ a1 then (if a1 < (a0.f2.size : Int) then (some (!decide ((bt a0.f2 a1) = 35))) else (some false)) else (some false)
theorem impl_isFree.go : Callable prog 86 := ⟨_, func86, by kernel_rfl, rfl⟩
theorem impl_isFree.ok (a0 : S24) (a1 : Int) (r : Bool) (h : impl_isFree.f a0 a1 = some r) : VCalls prog 86 [.agg (e24 a0), .c (iI a1)] [.c (.p (.sc (.bool r)))] := by
 unfold impl_isFree.f at h
 refine VCalls.of (fn := f86) (N := 21) func86 rfl rfl (fun w0 => ?_)
 by_cases c1 : 0 ≤ a1
 ·replace h := ip c1 h
  by_cases c2 : a1 < (a0.f2.size : Int)
  ·replace h := ip c2 h
   cases h
   exact rt func86 [.dec 7 true, .dec 14 true, .fin] (oT c1 (oT c2 (o1 c1 (o1 c2 on))))
  ·replace h := iq c2 h
   cases h
   exact rt func86 [.dec 7 true, .dec 14 false, .fin] (oT c1 (oF c2 on))
 ·replace h := iq c1 h
  cases h
  exact rt func86 [.dec 7 false, .fin] (oF c1 on)
end Go.Proofs.YtfhjipfkaemapaaGreat.V