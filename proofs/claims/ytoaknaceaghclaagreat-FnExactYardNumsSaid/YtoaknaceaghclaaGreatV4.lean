/- What each Go function computes, and that the machine does so: printed by a program of this session (avgen.py). -/
import Derived.Test.YtoaknaceaghclaaGreatV3
namespace Go.Proofs.YtoaknaceaghclaaGreat.V
open Go Go.Av Go.Proofs Go.Proofs.Tryz
set_option linter.unusedVariables false
set_option maxRecDepth 100000
/-! ### slices_IndexFunc_impl_Way_impl_Way_1: function 236 -/
def slices_IndexFunc_impl_Way_impl_Way_1.h0T (a0 : List S72) (gi1 : FuncId) (u1_0_0 : V) (v2 : Int) : List (Nat × AV) := [(0, .t (.c (.p false (R 1 e72 z72 a0)))), (1, .bfn gi1 [[u1_0_0]]), (7, .t (.c (.p true (.sc (.int .i64 (a0.length : Int)))))), (8, .t (.c (.p true (iI v2))))]
def slices_IndexFunc_impl_Way_impl_Way_1.h0H (a0 : List S72) (gi1 : FuncId) (u1_0_0 : V) (v2 : Int) : List (Nat × Content) := []
def slices_IndexFunc_impl_Way_impl_Way_1.l0 : Nat → List S72 → (S72 → Option Bool) → Int → Option Int
  | 0, _, _, _ => none
  | kq + 1, a0, p1, v2 => if v2 < (a0.length : Int) then (if 0 ≤ v2 then ((p1 (rdD z72 a0 v2)).bind fun t3 => if t3 = true then (some v2) else (slices_IndexFunc_impl_Way_impl_Way_1.l0 kq a0 p1 (w64 (v2 + 1)))) else none) else (some (-1))
def slices_IndexFunc_impl_Way_impl_Way_1.f (k : Nat) (a0 : List S72) (p1 : S72 → Option Bool) : Option Int := slices_IndexFunc_impl_Way_impl_Way_1.l0 k a0 p1 0
theorem slices_IndexFunc_impl_Way_impl_Way_1.go : Callable prog 236 := ⟨_, func236, by kernel_rfl, rfl⟩
theorem slices_IndexFunc_impl_Way_impl_Way_1.ok (k : Nat) (a0 : List S72) (p1 : S72 → Option Bool) (gi1 : FuncId) (u1_0_0 : V) (hp1 : ∀ x0 r, p1 x0 = some r → VCalls prog gi1 [.agg (e72 x0), .ptr [u1_0_0]] [.c (.p (.sc (.bool r)))]) (go1 : Callable prog gi1) (r : Int) (h : slices_IndexFunc_impl_Way_impl_Way_1.f k a0 p1 = some r) : VCalls prog 236 [.c (R 1 e72 z72 a0), .fn gi1 [[u1_0_0]]] [.c (.p (iI r))] := by
  unfold slices_IndexFunc_impl_Way_impl_Way_1.f at h
  refine VCalls.of (fn := f236) (N := 19) func236 rfl rfl (fun w0 => ?_)
  have H0 : ∀ (kq : Nat) (v2 : Int), slices_IndexFunc_impl_Way_impl_Way_1.l0 kq a0 p1 v2 = some r → AG prog 236 19 [.c (.p (iI r))] w0 (headStk (codeOf f236) 0) (mkFS (slices_IndexFunc_impl_Way_impl_Way_1.h0T a0 gi1 u1_0_0 v2) (slices_IndexFunc_impl_Way_impl_Way_1.h0H a0 gi1 u1_0_0 v2)) := by
    intro kq
    induction kq with
    | zero => intro v2 h; cases h
    | succ kq ih =>
      intro v2 h
      rw [slices_IndexFunc_impl_Way_impl_Way_1.l0] at h
      by_cases c4 : v2 < (a0.length : Int)
      · replace h := ip c4 h
        obtain ⟨c5, h⟩ := ifN h
        obtain ⟨t3, g6, h⟩ := bindN h
        let C6 := mkCon (hp1 (rdD z72 a0 v2) t3 g6) go1
        by_cases c7 : t3 = true
        · replace h := ip c7 h
          cases h
          exact rt func236 [.b true, .call C6, .b true, .fin] (oT c4 (o1 c5 (o1 c4 (oc C6 (o1 c7 on)))))
        · replace h := iq c7 h
          exact hd func236 [.b true, .call C6, .b false, .fin] (oT c4 (o1 c5 (o1 c4 (oc C6 (o1 (eqf c7) on))))) (ih (w64 (v2 + 1)) h)
      · replace h := iq c4 h
        cases h
        exact rt func236 [.b false, .fin, .fin] (oF c4 on)
  exact hd func236 [.fin] on (H0 k 0 h)

/-! ### slices_ContainsFunc_impl_Way_impl_Way_1: function 209 -/
def slices_ContainsFunc_impl_Way_impl_Way_1.f (k : Nat) (a0 : List S72) (p1 : S72 → Option Bool) : Option Bool := (slices_IndexFunc_impl_Way_impl_Way_1.f k a0 p1).bind fun t1 => some (decide (0 ≤ t1))
theorem slices_ContainsFunc_impl_Way_impl_Way_1.go : Callable prog 209 := ⟨_, func209, by kernel_rfl, rfl⟩
theorem slices_ContainsFunc_impl_Way_impl_Way_1.ok (k : Nat) (a0 : List S72) (p1 : S72 → Option Bool) (gi1 : FuncId) (u1_0_0 : V) (hp1 : ∀ x0 r, p1 x0 = some r → VCalls prog gi1 [.agg (e72 x0), .ptr [u1_0_0]] [.c (.p (.sc (.bool r)))]) (go1 : Callable prog gi1) (r : Bool) (h : slices_ContainsFunc_impl_Way_impl_Way_1.f k a0 p1 = some r) : VCalls prog 209 [.c (R 1 e72 z72 a0), .fn gi1 [[u1_0_0]]] [.c (.p (.sc (.bool r)))] := by
  unfold slices_ContainsFunc_impl_Way_impl_Way_1.f at h
  refine VCalls.of (fn := f209) (N := 9) func209 rfl rfl (fun w0 => ?_)
  obtain ⟨t1, g1, h⟩ := bindN h
  let C1 := mkCon (slices_IndexFunc_impl_Way_impl_Way_1.ok k a0 p1 gi1 u1_0_0 hp1 go1 t1 g1) slices_IndexFunc_impl_Way_impl_Way_1.go
  cases h
  exact rt func209 [.call C1, .fin] (oc C1 on)

/-! ### impl_areLevel: function 238 -/
def impl_areLevel.f (k : Nat) (a0 : List S72) : Option Bool := if 1 ≤ (a0.length : Int) then (if (a0.length : Int) ≤ 10 then ((slices_ContainsFunc_impl_Way_impl_Way_1.f k a0 (fun x3 => impl_areLevel_1.f x3 a0)).bind fun t1 => some (!t1)) else (some false)) else (some false)
theorem impl_areLevel.go : Callable prog 238 := ⟨_, func238, by kernel_rfl, rfl⟩
theorem impl_areLevel.ok (k : Nat) (a0 : List S72) (r : Bool) (h : impl_areLevel.f k a0 = some r) : VCalls prog 238 [.c (R 1 e72 z72 a0)] [.c (.p (.sc (.bool r)))] := by
  unfold impl_areLevel.f at h
  refine VCalls.of (fn := f238) (N := 17) func238 rfl rfl (fun w0 => ?_)
  by_cases c1 : 1 ≤ (a0.length : Int)
  · replace h := ip c1 h
    by_cases c2 : (a0.length : Int) ≤ 10
    · replace h := ip c2 h
      obtain ⟨t1, g4, h⟩ := bindN h
      let C4 := mkCon (slices_ContainsFunc_impl_Way_impl_Way_1.ok k a0 (fun x3 => impl_areLevel_1.f x3 a0) 248 (R 1 e72 z72 a0) (fun x3 r h => impl_areLevel_1.ok x3 a0 r h) impl_areLevel_1.go t1 g4) slices_ContainsFunc_impl_Way_impl_Way_1.go
      cases h
      exact rt func238 [.dec 6 true, .dec 11 true, .call C4, .fin] (oT c1 (oT c2 (oc C4 on)))
    · replace h := iq c2 h
      cases h
      exact rt func238 [.dec 6 true, .dec 11 false, .fin] (oT c1 (oF c2 on))
  · replace h := iq c1 h
    cases h
    exact rt func238 [.dec 6 false, .fin] (oF c1 on)

/-! ### impl_LevelWays: function 214 -/
def impl_LevelWays.f (k : Nat) (a0 : List S72) (a1 : Int) : Option Bool := (impl_areLevel.f k a0).bind fun t1 => if t1 = true then (if 0 ≤ a1 then (if 0 < (a0.length : Int) then (some (decide (a1 < (w64 ((((rdD z72 a0 0).f0).length : Int) - 1))))) else none) else (some false)) else (some false)
theorem impl_LevelWays.go : Callable prog 214 := ⟨_, func214, by kernel_rfl, rfl⟩
theorem impl_LevelWays.ok (k : Nat) (a0 : List S72) (a1 : Int) (r : Bool) (h : impl_LevelWays.f k a0 a1 = some r) : VCalls prog 214 [.c (R 1 e72 z72 a0), .c (iI a1)] [.c (.p (.sc (.bool r)))] := by
  unfold impl_LevelWays.f at h
  refine VCalls.of (fn := f214) (N := 21) func214 rfl rfl (fun w0 => ?_)
  obtain ⟨t1, g1, h⟩ := bindN h
  let C1 := mkCon (impl_areLevel.ok k a0 t1 g1) impl_areLevel.go
  by_cases c2 : t1 = true
  · replace h := ip c2 h
    by_cases c3 : 0 ≤ a1
    · replace h := ip c3 h
      obtain ⟨c4, h⟩ := ifN h
      cases h
      exact rt func214 [.call C1, .dec 7 true, .dec 11 true, .fin] (oc C1 (o1 c2 (oT c3 (o1 (by decide : (0 : Int) ≤ 0) (o1 c4 on)))))
    · replace h := iq c3 h
      cases h
      exact rt func214 [.call C1, .dec 7 true, .dec 11 false, .fin] (oc C1 (o1 c2 (oF c3 on)))
  · replace h := iq c2 h
    cases h
    exact rt func214 [.call C1, .dec 7 false, .fin] (oc C1 (o1 (eqf c2) on))

/-! ### impl_meets: function 215 -/
def impl_meets.h1T (a0 : List S72) (a1 : Int) (v3 : Int) (v4 : Int) : List (Nat × AV) := [(0, .t (.c (.p false (R 1 e72 z72 a0)))), (1, .t (.c (.p false (iI a1)))), (5, .t (.c (.p true (iI v3)))), (8, .t (.c (.p true (.sc (.int .i64 (a0.length : Int)))))), (9, .t (.c (.p true (iI v3)))), (15, .t (.c (.p true (.sc (.int .i64 (((a0.drop (0 : Int).toNat).take (v3.toNat - (0 : Int).toNat)).length : Int)))))), (16, .t (.c (.p true (iI v4))))]
def impl_meets.h1H (a0 : List S72) (a1 : Int) (v3 : Int) (v4 : Int) : List (Nat × Content) := []
def impl_meets.x1T (a0 : List S72) (a1 : Int) (v3 : Int) : List (Nat × AV) := [(0, .t (.c (.p false (R 1 e72 z72 a0)))), (1, .t (.c (.p false (iI a1)))), (8, .t (.c (.p true (.sc (.int .i64 (a0.length : Int)))))), (9, .t (.c (.p true (iI v3))))]
def impl_meets.x1H (a0 : List S72) (a1 : Int) (v3 : Int) : List (Nat × Content) := []
def impl_meets.l1 : Nat → List S72 → Int → Int → Int → Option (Bool ⊕ Unit)
  | 0, _, _, _, _ => none
  | kq + 1, a0, v3, a1, v4 => if v4 < (((a0.drop (0 : Int).toNat).take (v3.toNat - (0 : Int).toNat)).length : Int) then (if 0 ≤ a1 then (if a1 < (((rdD z72 a0 v3).f0).length : Int) then (if 0 ≤ v4 then (if v4 < (a0.length : Int) then (if a1 < (((rdD z72 a0 v4).f0).length : Int) then (if (rdD 0 ((rdD z72 a0 v3).f0) a1) = (rdD 0 ((rdD z72 a0 v4).f0) a1) then (some (.inl true)) else (impl_meets.l1 kq a0 v3 a1 (w64 (v4 + 1)))) else none) else none) else none) else none) else none) else (some (.inr ()))
def impl_meets.h0T (a0 : List S72) (a1 : Int) (v3 : Int) : List (Nat × AV) := [(0, .t (.c (.p false (R 1 e72 z72 a0)))), (1, .t (.c (.p false (iI a1)))), (8, .t (.c (.p true (.sc (.int .i64 (a0.length : Int)))))), (9, .t (.c (.p true (iI v3))))]
def impl_meets.h0H (a0 : List S72) (a1 : Int) (v3 : Int) : List (Nat × Content) := []
def impl_meets.l0 : Nat → List S72 → Int → Int → Option Bool
  | 0, _, _, _ => none
  | kq + 1, a0, a1, v3 => if v3 < (a0.length : Int) then (if 0 ≤ v3 then (if v3 ≤ (a0.length : Int) then ((impl_meets.l1 kq a0 v3 a1 0).bind fun x30 => match x30 with | .inl r => some r | .inr y5 => (impl_meets.l0 kq a0 a1 (w64 (v3 + 1)))) else none) else none) else (some false)
def impl_meets.f (k : Nat) (a0 : List S72) (a1 : Int) : Option Bool := impl_meets.l0 k a0 a1 0
theorem impl_meets.go : Callable prog 215 := ⟨_, func215, by kernel_rfl, rfl⟩
theorem impl_meets.ok (k : Nat) (a0 : List S72) (a1 : Int) (r : Bool) (h : impl_meets.f k a0 a1 = some r) : VCalls prog 215 [.c (R 1 e72 z72 a0), .c (iI a1)] [.c (.p (.sc (.bool r)))] := by
  unfold impl_meets.f at h
  refine VCalls.of (fn := f215) (N := 38) func215 rfl rfl (fun w0 => ?_)
  have H0 : ∀ (kq : Nat) (v3 : Int), impl_meets.l0 kq a0 a1 v3 = some r → AG prog 215 38 [.c (.p (.sc (.bool r)))] w0 (headStk (codeOf f215) 0) (mkFS (impl_meets.h0T a0 a1 v3) (impl_meets.h0H a0 a1 v3)) := by
    intro kq
    induction kq with
    | zero => intro v3 h; cases h
    | succ kq ih =>
      intro v3 h
      rw [impl_meets.l0] at h
      by_cases c14 : v3 < (a0.length : Int)
      · replace h := ip c14 h
        obtain ⟨c15, h⟩ := ifN h
        obtain ⟨c16, h⟩ := ifN h
        have H1 : ∀ (kq : Nat) (v4 : Int) (x : (Bool ⊕ Unit)), impl_meets.l1 kq a0 v3 a1 v4 = some x → (match x with | .inl r' => r' = r | .inr y5 => AG prog 215 38 [.c (.p (.sc (.bool r)))] w0 (exitStk (codeOf f215) 1) (mkFS (impl_meets.x1T a0 a1 v3) (impl_meets.x1H a0 a1 v3))) → AG prog 215 38 [.c (.p (.sc (.bool r)))] w0 (headStk (codeOf f215) 1) (mkFS (impl_meets.h1T a0 a1 v3 v4) (impl_meets.h1H a0 a1 v3 v4)) := by
          intro kq
          induction kq with
          | zero => intro v4 x h hx; cases h
          | succ kq ih =>
            intro v4 x h hx
            rw [impl_meets.l1] at h
            by_cases c23 : v4 < (((a0.drop (0 : Int).toNat).take (v3.toNat - (0 : Int).toNat)).length : Int)
            · replace h := ip c23 h
              obtain ⟨c24, h⟩ := ifN h
              obtain ⟨c25, h⟩ := ifN h
              obtain ⟨c26, h⟩ := ifN h
              obtain ⟨c27, h⟩ := ifN h
              obtain ⟨c28, h⟩ := ifN h
              by_cases c29 : (rdD 0 ((rdD z72 a0 v3).f0) a1) = (rdD 0 ((rdD z72 a0 v4).f0) a1)
              · replace h := ip c29 h
                cases h
                subst hx
                exact rt func215 [.b true, .b true, .fin] (oT c23 (o1 c15 (o1 c14 (o1 c24 (o1 c25 (o1 c26 (o1 c27 (o1 c24 (o1 c28 (oT c29 on))))))))))
              · replace h := iq c29 h
                exact hd func215 [.b true, .b false, .fin] (oT c23 (o1 c15 (o1 c14 (o1 c24 (o1 c25 (o1 c26 (o1 c27 (o1 c24 (o1 c28 (oF c29 on)))))))))) (ih (w64 (v4 + 1)) _ h hx)
            · replace h := iq c23 h
              cases h
              exact st func215 [.b false, .fin] (oF c23 on) hx
        obtain ⟨x30, g30, h⟩ := bindN h
        cases x30 with
        | inl r' =>
          exact hd func215 [.b true, .cst 14 (R 1 e72 z72 ((a0.drop (0 : Int).toNat).take (v3.toNat - (0 : Int).toNat))), .fin] (oT c14 (o1 (by decide : (0 : Int) ≤ 0) (o1 c15 (o1 c16 (o1 (VE.cut (z := 1) (e := e72) (d := z72) a0 (n := a0.length) (lo := 0) (hi := v3) rfl (by decide : (0 : Int) ≤ 0) c15 c16) on))))) (H1 kq 0 _ g30 (Option.some.inj h))
        | inr y5 =>
          refine hd func215 [.b true, .cst 14 (R 1 e72 z72 ((a0.drop (0 : Int).toNat).take (v3.toNat - (0 : Int).toNat))), .fin] (oT c14 (o1 (by decide : (0 : Int) ≤ 0) (o1 c15 (o1 c16 (o1 (VE.cut (z := 1) (e := e72) (d := z72) a0 (n := a0.length) (lo := 0) (hi := v3) rfl (by decide : (0 : Int) ≤ 0) c15 c16) on))))) (H1 kq 0 _ g30 ?_)
          show AG prog 215 38 [.c (.p (.sc (.bool r)))] w0 (exitStk (codeOf f215) 1) (mkFS (impl_meets.x1T a0 a1 v3) (impl_meets.x1H a0 a1 v3))
          exact hd func215 [.fin] on (ih (w64 (v3 + 1)) h)
      · replace h := iq c14 h
        cases h
        exact rt func215 [.b false, .fin, .fin] (oF c14 on)
  exact hd func215 [.fin] on (H0 k 0 h)

/-! ### impl_MeetAt: function 172 -/
def impl_MeetAt.f (k : Nat) (a0 : List S72) (a1 : Int) : Option Bool := (impl_LevelWays.f k a0 a1).bind fun t1 => if t1 = true then ((impl_meets.f k a0 a1).bind fun t2 => if t2 = true then (some true) else ((impl_meets.f k a0 (w64 (a1 + 1))).bind fun t3 => some t3)) else (some false)
theorem impl_MeetAt.go : Callable prog 172 := ⟨_, func172, by kernel_rfl, rfl⟩
theorem impl_MeetAt.ok (k : Nat) (a0 : List S72) (a1 : Int) (r : Bool) (h : impl_MeetAt.f k a0 a1 = some r) : VCalls prog 172 [.c (R 1 e72 z72 a0), .c (iI a1)] [.c (.p (.sc (.bool r)))] := by
  unfold impl_MeetAt.f at h
  refine VCalls.of (fn := f172) (N := 19) func172 rfl rfl (fun w0 => ?_)
  obtain ⟨t1, g1, h⟩ := bindN h
  let C1 := mkCon (impl_LevelWays.ok k a0 a1 t1 g1) impl_LevelWays.go
  by_cases c2 : t1 = true
  · replace h := ip c2 h
    obtain ⟨t2, g3, h⟩ := bindN h
    let C3 := mkCon (impl_meets.ok k a0 a1 t2 g3) impl_meets.go
    by_cases c4 : t2 = true
    · replace h := ip c4 h
      cases h
      exact rt func172 [.call C1, .dec 8 true, .call C3, .dec 12 true, .fin] (oc C1 (o1 c2 (oc C3 (o1 c4 on))))
    · replace h := iq c4 h
      obtain ⟨t3, g5, h⟩ := bindN h
      let C5 := mkCon (impl_meets.ok k a0 (w64 (a1 + 1)) t3 g5) impl_meets.go
      cases h
      exact rt func172 [.call C1, .dec 8 true, .call C3, .dec 12 false, .call C5, .fin] (oc C1 (o1 c2 (oc C3 (o1 (eqf c4) (oc C5 on)))))
  · replace h := iq c2 h
    cases h
    exact rt func172 [.call C1, .dec 8 false, .fin] (oc C1 (o1 (eqf c2) on))

/-! ### impl_PlanFault_1: function 171 -/
def impl_PlanFault_1.f (k : Nat) (a0 : Int) (a1 : S45) : Option Bool := (impl_MeetAt.f k a1.f2 a0).bind fun t1 => some t1
theorem impl_PlanFault_1.go : Callable prog 171 := ⟨_, func171, by kernel_rfl, rfl⟩
theorem impl_PlanFault_1.ok (k : Nat) (a0 : Int) (a1 : S45) (r : Bool) (h : impl_PlanFault_1.f k a0 a1 = some r) : VCalls prog 171 [.c (iI a0), .ptr [.sc (.int .i64 a1.f0), .sc (.int .i64 a1.f1), R 1 e72 z72 a1.f2]] [.c (.p (.sc (.bool r)))] := by
  unfold impl_PlanFault_1.f at h
  refine VCalls.of (fn := f171) (N := 8) func171 rfl rfl (fun w0 => ?_)
  obtain ⟨t1, g1, h⟩ := bindN h
  let C1 := mkCon (impl_MeetAt.ok k a1.f2 a0 t1 g1) impl_MeetAt.go
  cases h
  exact rt func171 [.call C1, .fin] (oc C1 on)

/-! ### impl_someTime_3: function 170 -/
def impl_someTime_3.h0T (a0 : Int) (gi1 : FuncId) (u1_0_0 : V) (u1_0_1 : V) (u1_0_2 : V) (v2 : Int) : List (Nat × AV) := [(0, .t (.c (.p false (iI a0)))), (1, .bfn gi1 [[u1_0_0, u1_0_1, u1_0_2]]), (5, .t (.c (.p true (iI v2))))]
def impl_someTime_3.h0H (a0 : Int) (gi1 : FuncId) (u1_0_0 : V) (u1_0_1 : V) (u1_0_2 : V) (v2 : Int) : List (Nat × Content) := []
def impl_someTime_3.l0 : Nat → Int → (Int → Option Bool) → Int → Option Bool
  | 0, _, _, _ => none
  | kq + 1, a0, p1, v2 => if v2 < a0 then ((p1 v2).bind fun t3 => if t3 = true then (some true) else (impl_someTime_3.l0 kq a0 p1 (w64 (v2 + 1)))) else (some false)
def impl_someTime_3.f (k : Nat) (a0 : Int) (p1 : Int → Option Bool) : Option Bool := impl_someTime_3.l0 k a0 p1 0
theorem impl_someTime_3.go : Callable prog 170 := ⟨_, func170, by kernel_rfl, rfl⟩
theorem impl_someTime_3.ok (k : Nat) (a0 : Int) (p1 : Int → Option Bool) (gi1 : FuncId) (u1_0_0 u1_0_1 u1_0_2 : V) (hp1 : ∀ x0 r, p1 x0 = some r → VCalls prog gi1 [.c (iI x0), .ptr [u1_0_0, u1_0_1, u1_0_2]] [.c (.p (.sc (.bool r)))]) (go1 : Callable prog gi1) (r : Bool) (h : impl_someTime_3.f k a0 p1 = some r) : VCalls prog 170 [.c (iI a0), .fn gi1 [[u1_0_0, u1_0_1, u1_0_2]]] [.c (.p (.sc (.bool r)))] := by
  unfold impl_someTime_3.f at h
  refine VCalls.of (fn := f170) (N := 14) func170 rfl rfl (fun w0 => ?_)
  have H0 : ∀ (kq : Nat) (v2 : Int), impl_someTime_3.l0 kq a0 p1 v2 = some r → AG prog 170 14 [.c (.p (.sc (.bool r)))] w0 (headStk (codeOf f170) 0) (mkFS (impl_someTime_3.h0T a0 gi1 u1_0_0 u1_0_1 u1_0_2 v2) (impl_someTime_3.h0H a0 gi1 u1_0_0 u1_0_1 u1_0_2 v2)) := by
    intro kq
    induction kq with
    | zero => intro v2 h; cases h
    | succ kq ih =>
      intro v2 h
      rw [impl_someTime_3.l0] at h
      by_cases c4 : v2 < a0
      · replace h := ip c4 h
        obtain ⟨t3, g5, h⟩ := bindN h
        let C5 := mkCon (hp1 v2 t3 g5) go1
        by_cases c6 : t3 = true
        · replace h := ip c6 h
          cases h
          exact rt func170 [.b true, .call C5, .b true, .fin] (oT c4 (oc C5 (o1 c6 on)))
        · replace h := iq c6 h
          exact hd func170 [.b true, .call C5, .b false, .fin] (oT c4 (oc C5 (o1 (eqf c6) on))) (ih (w64 (v2 + 1)) h)
      · replace h := iq c4 h
        cases h
        exact rt func170 [.b false, .fin, .fin] (oF c4 on)
  exact hd func170 [.fin] on (H0 k 0 h)

/-! ### impl_nextOf_1: function 239 -/
def impl_nextOf_1.f (a0 : S72) (a1 : Int) (a2 : S72) : Option Bool := if 0 ≤ a1 then (if a1 < (a0.f0.length : Int) then (if 0 ≤ (w64 (a1 + 1)) then (if (w64 (a1 + 1)) < (a2.f0.length : Int) then (some (decide ((rdD 0 a0.f0 a1) = (rdD 0 a2.f0 (w64 (a1 + 1)))))) else none) else none) else none) else none
theorem impl_nextOf_1.go : Callable prog 239 := ⟨_, func239, by kernel_rfl, rfl⟩
theorem impl_nextOf_1.ok (a0 : S72) (a1 : Int) (a2 : S72) (r : Bool) (h : impl_nextOf_1.f a0 a1 a2 = some r) : VCalls prog 239 [.agg (e72 a0), .ptr [.sc (.int .i64 a1)], .ptr [R 1 (eI .i64) 0 a2.f0]] [.c (.p (.sc (.bool r)))] := by
  unfold impl_nextOf_1.f at h
  refine VCalls.of (fn := f239) (N := 17) func239 rfl rfl (fun w0 => ?_)
  obtain ⟨c1, h⟩ := ifN h
  obtain ⟨c2, h⟩ := ifN h
  obtain ⟨c3, h⟩ := ifN h
  obtain ⟨c4, h⟩ := ifN h
  cases h
  exact rt func239 [.fin] (o1 c1 (o1 c2 (o1 c3 (o1 c4 on))))

/-! ### slices_IndexFunc_impl_Way_impl_Way_1_1: function 236 -/
def slices_IndexFunc_impl_Way_impl_Way_1_1.h0T (a0 : List S72) (gi1 : FuncId) (u1_0_0 : V) (u1_1_0 : V) (v2 : Int) : List (Nat × AV) := [(0, .t (.c (.p false (R 1 e72 z72 a0)))), (1, .bfn gi1 [[u1_0_0], [u1_1_0]]), (7, .t (.c (.p true (.sc (.int .i64 (a0.length : Int)))))), (8, .t (.c (.p true (iI v2))))]
def slices_IndexFunc_impl_Way_impl_Way_1_1.h0H (a0 : List S72) (gi1 : FuncId) (u1_0_0 : V) (u1_1_0 : V) (v2 : Int) : List (Nat × Content) := []
def slices_IndexFunc_impl_Way_impl_Way_1_1.l0 : Nat → List S72 → (S72 → Option Bool) → Int → Option Int
  | 0, _, _, _ => none
  | kq + 1, a0, p1, v2 => if v2 < (a0.length : Int) then (if 0 ≤ v2 then ((p1 (rdD z72 a0 v2)).bind fun t3 => if t3 = true then (some v2) else (slices_IndexFunc_impl_Way_impl_Way_1_1.l0 kq a0 p1 (w64 (v2 + 1)))) else none) else (some (-1))
def slices_IndexFunc_impl_Way_impl_Way_1_1.f (k : Nat) (a0 : List S72) (p1 : S72 → Option Bool) : Option Int := slices_IndexFunc_impl_Way_impl_Way_1_1.l0 k a0 p1 0
theorem slices_IndexFunc_impl_Way_impl_Way_1_1.go : Callable prog 236 := ⟨_, func236, by kernel_rfl, rfl⟩
theorem slices_IndexFunc_impl_Way_impl_Way_1_1.ok (k : Nat) (a0 : List S72) (p1 : S72 → Option Bool) (gi1 : FuncId) (u1_0_0 u1_1_0 : V) (hp1 : ∀ x0 r, p1 x0 = some r → VCalls prog gi1 [.agg (e72 x0), .ptr [u1_0_0], .ptr [u1_1_0]] [.c (.p (.sc (.bool r)))]) (go1 : Callable prog gi1) (r : Int) (h : slices_IndexFunc_impl_Way_impl_Way_1_1.f k a0 p1 = some r) : VCalls prog 236 [.c (R 1 e72 z72 a0), .fn gi1 [[u1_0_0], [u1_1_0]]] [.c (.p (iI r))] := by
  unfold slices_IndexFunc_impl_Way_impl_Way_1_1.f at h
  refine VCalls.of (fn := f236) (N := 19) func236 rfl rfl (fun w0 => ?_)
  have H0 : ∀ (kq : Nat) (v2 : Int), slices_IndexFunc_impl_Way_impl_Way_1_1.l0 kq a0 p1 v2 = some r → AG prog 236 19 [.c (.p (iI r))] w0 (headStk (codeOf f236) 0) (mkFS (slices_IndexFunc_impl_Way_impl_Way_1_1.h0T a0 gi1 u1_0_0 u1_1_0 v2) (slices_IndexFunc_impl_Way_impl_Way_1_1.h0H a0 gi1 u1_0_0 u1_1_0 v2)) := by
    intro kq
    induction kq with
    | zero => intro v2 h; cases h
    | succ kq ih =>
      intro v2 h
      rw [slices_IndexFunc_impl_Way_impl_Way_1_1.l0] at h
      by_cases c4 : v2 < (a0.length : Int)
      · replace h := ip c4 h
        obtain ⟨c5, h⟩ := ifN h
        obtain ⟨t3, g6, h⟩ := bindN h
        let C6 := mkCon (hp1 (rdD z72 a0 v2) t3 g6) go1
        by_cases c7 : t3 = true
        · replace h := ip c7 h
          cases h
          exact rt func236 [.b true, .call C6, .b true, .fin] (oT c4 (o1 c5 (o1 c4 (oc C6 (o1 c7 on)))))
        · replace h := iq c7 h
          exact hd func236 [.b true, .call C6, .b false, .fin] (oT c4 (o1 c5 (o1 c4 (oc C6 (o1 (eqf c7) on))))) (ih (w64 (v2 + 1)) h)
      · replace h := iq c4 h
        cases h
        exact rt func236 [.b false, .fin, .fin] (oF c4 on)
  exact hd func236 [.fin] on (H0 k 0 h)

/-! ### impl_nextOf: function 216 -/
def impl_nextOf.h0T (a0 : List S72) (v8 : Int) (a1 : Int) (v7 : List Int) : List (Nat × AV) := [(0, .t (.c (.p false (R 1 e72 z72 a0)))), (3, .ptr 192 0), (5, .t (.c (.h 320320))), (17, .t (.c (.p false (R 1 e72 z72 a0)))), (18, .t (.c (.p true (.sc (.int .i64 (a0.length : Int)))))), (19, .t (.c (.p true (iI v8))))]
def impl_nextOf.h0H (a0 : List S72) (v8 : Int) (a1 : Int) (v7 : List Int) : List (Nat × Content) := [(192, .box 3 [.p false (iI a1)]), (320320, .row 3 1 v7.length (fun j => (eI .i64) (v7.getD j 0)) true)]
def impl_nextOf.l0 : Nat → List S72 → Int → List Int → Int → Option (List Int)
  | 0, _, _, _, _ => none
  | kq + 1, a0, a1, v7, v8 => if v8 < (a0.length : Int) then (if 0 ≤ v8 then ((slices_IndexFunc_impl_Way_impl_Way_1_1.f kq a0 (fun x20 => impl_nextOf_1.f x20 a1 (rdD z72 a0 v8))).bind fun t9 => if (v7.length + 1) * 8 ≤ 140737488355328 then (impl_nextOf.l0 kq a0 a1 (v7 ++ [t9]) (w64 (v8 + 1))) else none) else none) else (some v7)
def impl_nextOf.f (k : Nat) (a0 : List S72) (a1 : Int) : Option (List Int) := (impl_LevelWays.f k a0 a1).bind fun t1 => if t1 = true then ((impl_MeetAt.f k a0 a1).bind fun t2 => if t2 = true then (some ([] : List Int)) else (impl_nextOf.l0 k a0 a1 ([] : List Int) 0)) else (some ([] : List Int))
theorem impl_nextOf.go : Callable prog 216 := ⟨_, func216, by kernel_rfl, rfl⟩
theorem impl_nextOf.ok (k : Nat) (a0 : List S72) (a1 : Int) (r : (List Int)) (h : impl_nextOf.f k a0 a1 = some r) : VCalls prog 216 [.c (R 1 e72 z72 a0), .c (iI a1)] [.c (.own 3 1 r.length (fun j => (eI .i64) (r.getD j 0)))] := by
  unfold impl_nextOf.f at h
  refine VCalls.of (fn := f216) (N := 31) func216 rfl rfl (fun w0 => ?_)
  obtain ⟨t1, g1, h⟩ := bindN h
  let C1 := mkCon (impl_LevelWays.ok k a0 a1 t1 g1) impl_LevelWays.go
  by_cases c2 : t1 = true
  · replace h := ip c2 h
    obtain ⟨t2, g3, h⟩ := bindN h
    let C3 := mkCon (impl_MeetAt.ok k a0 a1 t2 g3) impl_MeetAt.go
    by_cases c4 : t2 = true
    · replace h := ip c4 h
      cases h
      exact rt func216 [.call C1, .dec 12 false, .call C3, .b true, .fin, .nil 4 384256 3 1, orow 384256 (eI .i64) 0 ([] : List Int)] (oc C1 (o1 (bnf c2) (oc C3 (o1 c4 (o1 (GE.nil (eI .i64) 0) on)))))
    · replace h := iq c4 h
      have H0 : ∀ (kq : Nat) (v7 : List Int) (v8 : Int), impl_nextOf.l0 kq a0 a1 v7 v8 = some r → AG prog 216 31 [.c (.own 3 1 r.length (fun j => (eI .i64) (r.getD j 0)))] w0 (headStk (codeOf f216) 0) (mkFS (impl_nextOf.h0T a0 v8 a1 v7) (impl_nextOf.h0H a0 v8 a1 v7)) := by
        intro kq
        induction kq with
        | zero => intro v7 v8 h; cases h
        | succ kq ih =>
          intro v7 v8 h
          rw [impl_nextOf.l0] at h
          by_cases c18 : v8 < (a0.length : Int)
          · replace h := ip c18 h
            obtain ⟨c19, h⟩ := ifN h
            obtain ⟨t9, g21, h⟩ := bindN h
            let C21 := mkCon (slices_IndexFunc_impl_Way_impl_Way_1_1.ok kq a0 (fun x20 => impl_nextOf_1.f x20 a1 (rdD z72 a0 v8)) 239 (iI a1) (R 1 (eI .i64) 0 ((rdD z72 a0 v8).f0)) (fun x20 r h => impl_nextOf_1.ok x20 a1 (rdD z72 a0 v8) r h) impl_nextOf_1.go t9 g21) slices_IndexFunc_impl_Way_impl_Way_1_1.go
            obtain ⟨c22, h⟩ := ifN h
            exact hd func216 [.b true, .call C21, rowe 27 (eI .i64) 0 ([t9]), .aft 28, orow 320320 (eI .i64) 0 (v7 ++ [t9]), .fin] (oT c18 (o1 c19 (o1 c18 (oc C21 (o1 (GE.lit 1 (eI .i64) 0 [t9] (by intro x; rfl)) (o1 c22 (o1 (GE.app (e := (eI .i64)) (d := 0) v7 ([t9]) rfl (fun _ _ => CE.refl _) rfl) on))))))) (ih (v7 ++ [t9]) (w64 (v8 + 1)) h)
          · replace h := iq c18 h
            cases h
            exact rt func216 [.b false, .fin, .fin] (oF c18 on)
      exact hd func216 [.call C1, .dec 12 false, .call C3, .b false, .fin, .nil 5 320320 3 1, orow 320320 (eI .i64) 0 ([] : List Int)] (oc C1 (o1 (bnf c2) (oc C3 (o1 (eqf c4) (o1 (GE.nil (eI .i64) 0) on))))) (H0 k ([] : List Int) 0 h)
  · replace h := iq c2 h
    cases h
    exact rt func216 [.call C1, .dec 12 true, .b true, .fin, .nil 4 384256 3 1, orow 384256 (eI .i64) 0 ([] : List Int)] (oc C1 (oN c2 (oR (o1 (GE.nil (eI .i64) 0) on))))

/-! ### impl_ringOf: function 217 -/
def impl_ringOf.h0T (a0 : List Int) (a1 : Int) (v2 : Int) (v3 : Int) : List (Nat × AV) := [(0, .t (.c (.p false (R 1 (eI .i64) 0 a0)))), (1, .t (.c (.p false (iI a1)))), (5, .t (.c (.p true (iI v2)))), (6, .t (.c (.p false (iI v3))))]
def impl_ringOf.h0H (a0 : List Int) (a1 : Int) (v2 : Int) (v3 : Int) : List (Nat × Content) := []
def impl_ringOf.l0 : Nat → Int → List Int → Int → Int → Option Int
  | 0, _, _, _, _ => none
  | kq + 1, a1, a0, v2, v3 => if v3 = a1 then (some v2) else (if v3 < 0 then (some 0) else (if (a0.length : Int) < v2 then (some 0) else (if 0 ≤ v3 then (if v3 < (a0.length : Int) then (impl_ringOf.l0 kq a1 a0 (w64 (v2 + 1)) (rdD 0 a0 v3)) else none) else none)))
def impl_ringOf.f (k : Nat) (a0 : List Int) (a1 : Int) : Option Int := if 0 ≤ a1 then (if a1 < (a0.length : Int) then (impl_ringOf.l0 k a1 a0 1 (rdD 0 a0 a1)) else none) else none
theorem impl_ringOf.go : Callable prog 217 := ⟨_, func217, by kernel_rfl, rfl⟩
theorem impl_ringOf.ok (k : Nat) (a0 : List Int) (a1 : Int) (r : Int) (h : impl_ringOf.f k a0 a1 = some r) : VCalls prog 217 [.c (R 1 (eI .i64) 0 a0), .c (iI a1)] [.c (.p (iI r))] := by
  unfold impl_ringOf.f at h
  refine VCalls.of (fn := f217) (N := 29) func217 rfl rfl (fun w0 => ?_)
  obtain ⟨c1, h⟩ := ifN h
  obtain ⟨c2, h⟩ := ifN h
  have H0 : ∀ (kq : Nat) (v2 : Int) (v3 : Int), impl_ringOf.l0 kq a1 a0 v2 v3 = some r → AG prog 217 29 [.c (.p (iI r))] w0 (headStk (codeOf f217) 0) (mkFS (impl_ringOf.h0T a0 a1 v2 v3) (impl_ringOf.h0H a0 a1 v2 v3)) := by
    intro kq
    induction kq with
    | zero => intro v2 v3 h; cases h
    | succ kq ih =>
      intro v2 v3 h
      rw [impl_ringOf.l0] at h
      by_cases c13 : v3 = a1
      · replace h := ip c13 h
        cases h
        exact rt func217 [.b false, .fin, .fin] (o1 (bnf (decide_eq_true c13)) on)
      · replace h := iq c13 h
        by_cases c14 : v3 < 0
        · replace h := ip c14 h
          cases h
          exact rt func217 [.b true, .dec 20 true, .b true, .fin] (o1 (bnt (decide_eq_false c13)) (oT c14 (oR on)))
        · replace h := iq c14 h
          by_cases c15 : (a0.length : Int) < v2
          · replace h := ip c15 h
            cases h
            exact rt func217 [.b true, .dec 20 false, .b true, .fin] (o1 (bnt (decide_eq_false c13)) (oF c14 (oT c15 on)))
          · replace h := iq c15 h
            obtain ⟨c16, h⟩ := ifN h
            obtain ⟨c17, h⟩ := ifN h
            exact hd func217 [.b true, .dec 20 false, .b false, .fin] (o1 (bnt (decide_eq_false c13)) (oF c14 (oF c15 (o1 c16 (o1 c17 on))))) (ih (w64 (v2 + 1)) (rdD 0 a0 v3) h)
  exact hd func217 [.fin] (o1 c1 (o1 c2 on)) (H0 k 1 (rdD 0 a0 a1) h)

/-! ### impl_SwapsAt: function 174 -/
def impl_SwapsAt.h0T (v6 : Int) (t1 : List Int) (v5 : Int) : List (Nat × AV) := [(5, .t (.c (.h 640))), (6, .t (.c (.p true (iI v6)))), (12, .t (.c (.p true (.sc (.int .i64 (t1.length : Int)))))), (13, .t (.c (.p true (iI v5))))]
def impl_SwapsAt.h0H (v6 : Int) (t1 : List Int) (v5 : Int) : List (Nat × Content) := [(640, .row 3 1 t1.length (fun j => (eI .i64) (t1.getD j 0)) true)]
def impl_SwapsAt.l0 : Nat → List Int → Int → Int → Option Int
  | 0, _, _, _ => none
  | kq + 1, t1, v5, v6 => if v5 < (t1.length : Int) then ((impl_ringOf.f kq t1 v5).bind fun t7 => if t7 = 2 then (impl_SwapsAt.l0 kq t1 (w64 (v5 + 1)) (w64 (v6 + 1))) else (impl_SwapsAt.l0 kq t1 (w64 (v5 + 1)) v6)) else (some (w64 (v6.tdiv 2)))
def impl_SwapsAt.f (k : Nat) (a0 : List S72) (a1 : Int) : Option Int := (impl_nextOf.f k a0 a1).bind fun t1 => impl_SwapsAt.l0 k t1 0 0
theorem impl_SwapsAt.go : Callable prog 174 := ⟨_, func174, by kernel_rfl, rfl⟩
theorem impl_SwapsAt.ok (k : Nat) (a0 : List S72) (a1 : Int) (r : Int) (h : impl_SwapsAt.f k a0 a1 = some r) : VCalls prog 174 [.c (R 1 e72 z72 a0), .c (iI a1)] [.c (.p (iI r))] := by
  unfold impl_SwapsAt.f at h
  refine VCalls.of (fn := f174) (N := 25) func174 rfl rfl (fun w0 => ?_)
  obtain ⟨t1, g1, h⟩ := bindN h
  let C1 := mkCon (impl_nextOf.ok k a0 a1 t1 g1) impl_nextOf.go
  have H0 : ∀ (kq : Nat) (v5 : Int) (v6 : Int), impl_SwapsAt.l0 kq t1 v5 v6 = some r → AG prog 174 25 [.c (.p (iI r))] w0 (headStk (codeOf f174) 0) (mkFS (impl_SwapsAt.h0T v6 t1 v5) (impl_SwapsAt.h0H v6 t1 v5)) := by
    intro kq
    induction kq with
    | zero => intro v5 v6 h; cases h
    | succ kq ih =>
      intro v5 v6 h
      rw [impl_SwapsAt.l0] at h
      by_cases c8 : v5 < (t1.length : Int)
      · replace h := ip c8 h
        obtain ⟨t7, g9, h⟩ := bindN h
        let C9 := mkCon (impl_ringOf.ok kq t1 v5 t7 g9) impl_ringOf.go
        by_cases c10 : t7 = 2
        · replace h := ip c10 h
          exact hd func174 [.b true, .call C9, .b true, .fin] (oT c8 (oc C9 (oT c10 on))) (ih (w64 (v5 + 1)) (w64 (v6 + 1)) h)
        · replace h := iq c10 h
          exact hd func174 [.b true, .call C9, .b false, .fin] (oT c8 (oc C9 (oF c10 on))) (ih (w64 (v5 + 1)) v6 h)
      · replace h := iq c8 h
        cases h
        exact rt func174 [.b false, .fin, .fin] (oF c8 (o1 (by decide : (2 : Int) ≠ 0) on))
  exact hd func174 [.call C1, .fin] (oc C1 on) (H0 k 0 0 h)

/-! ### impl_PlanFault_2: function 173 -/
def impl_PlanFault_2.f (k : Nat) (a0 : Int) (a1 : S45) : Option Bool := (impl_SwapsAt.f k a1.f2 a0).bind fun t1 => some (!decide (t1 = 0))
theorem impl_PlanFault_2.go : Callable prog 173 := ⟨_, func173, by kernel_rfl, rfl⟩
theorem impl_PlanFault_2.ok (k : Nat) (a0 : Int) (a1 : S45) (r : Bool) (h : impl_PlanFault_2.f k a0 a1 = some r) : VCalls prog 173 [.c (iI a0), .ptr [.sc (.int .i64 a1.f0), .sc (.int .i64 a1.f1), R 1 e72 z72 a1.f2]] [.c (.p (.sc (.bool r)))] := by
  unfold impl_PlanFault_2.f at h
  refine VCalls.of (fn := f173) (N := 9) func173 rfl rfl (fun w0 => ?_)
  obtain ⟨t1, g1, h⟩ := bindN h
  let C1 := mkCon (impl_SwapsAt.ok k a1.f2 a0 t1 g1) impl_SwapsAt.go
  cases h
  exact rt func173 [.call C1, .fin] (oc C1 on)

/-! ### impl_RingsAt: function 176 -/
def impl_RingsAt.h0T (v6 : Int) (t1 : List Int) (v5 : Int) : List (Nat × AV) := [(5, .t (.c (.h 640))), (6, .t (.c (.p true (iI v6)))), (12, .t (.c (.p true (.sc (.int .i64 (t1.length : Int)))))), (13, .t (.c (.p true (iI v5))))]
def impl_RingsAt.h0H (v6 : Int) (t1 : List Int) (v5 : Int) : List (Nat × Content) := [(640, .row 3 1 t1.length (fun j => (eI .i64) (t1.getD j 0)) true)]
def impl_RingsAt.l0 : Nat → List Int → Int → Int → Option Int
  | 0, _, _, _ => none
  | kq + 1, t1, v5, v6 => if v5 < (t1.length : Int) then ((impl_ringOf.f kq t1 v5).bind fun t7 => if 2 < t7 then (impl_RingsAt.l0 kq t1 (w64 (v5 + 1)) (w64 (v6 + 1))) else (impl_RingsAt.l0 kq t1 (w64 (v5 + 1)) v6)) else (some v6)
def impl_RingsAt.f (k : Nat) (a0 : List S72) (a1 : Int) : Option Int := (impl_nextOf.f k a0 a1).bind fun t1 => impl_RingsAt.l0 k t1 0 0
theorem impl_RingsAt.go : Callable prog 176 := ⟨_, func176, by kernel_rfl, rfl⟩
theorem impl_RingsAt.ok (k : Nat) (a0 : List S72) (a1 : Int) (r : Int) (h : impl_RingsAt.f k a0 a1 = some r) : VCalls prog 176 [.c (R 1 e72 z72 a0), .c (iI a1)] [.c (.p (iI r))] := by
  unfold impl_RingsAt.f at h
  refine VCalls.of (fn := f176) (N := 24) func176 rfl rfl (fun w0 => ?_)
  obtain ⟨t1, g1, h⟩ := bindN h
  let C1 := mkCon (impl_nextOf.ok k a0 a1 t1 g1) impl_nextOf.go
  have H0 : ∀ (kq : Nat) (v5 : Int) (v6 : Int), impl_RingsAt.l0 kq t1 v5 v6 = some r → AG prog 176 24 [.c (.p (iI r))] w0 (headStk (codeOf f176) 0) (mkFS (impl_RingsAt.h0T v6 t1 v5) (impl_RingsAt.h0H v6 t1 v5)) := by
    intro kq
    induction kq with
    | zero => intro v5 v6 h; cases h
    | succ kq ih =>
      intro v5 v6 h
      rw [impl_RingsAt.l0] at h
      by_cases c8 : v5 < (t1.length : Int)
      · replace h := ip c8 h
        obtain ⟨t7, g9, h⟩ := bindN h
        let C9 := mkCon (impl_ringOf.ok kq t1 v5 t7 g9) impl_ringOf.go
        by_cases c10 : 2 < t7
        · replace h := ip c10 h
          exact hd func176 [.b true, .call C9, .b true, .fin] (oT c8 (oc C9 (oT c10 on))) (ih (w64 (v5 + 1)) (w64 (v6 + 1)) h)
        · replace h := iq c10 h
          exact hd func176 [.b true, .call C9, .b false, .fin] (oT c8 (oc C9 (oF c10 on))) (ih (w64 (v5 + 1)) v6 h)
      · replace h := iq c8 h
        cases h
        exact rt func176 [.b false, .fin, .fin] (oF c8 on)
  exact hd func176 [.call C1, .fin] (oc C1 on) (H0 k 0 0 h)

/-! ### impl_PlanFault_3: function 175 -/
def impl_PlanFault_3.f (k : Nat) (a0 : Int) (a1 : S45) : Option Bool := (impl_RingsAt.f k a1.f2 a0).bind fun t1 => some (!decide (t1 = 0))
theorem impl_PlanFault_3.go : Callable prog 175 := ⟨_, func175, by kernel_rfl, rfl⟩
theorem impl_PlanFault_3.ok (k : Nat) (a0 : Int) (a1 : S45) (r : Bool) (h : impl_PlanFault_3.f k a0 a1 = some r) : VCalls prog 175 [.c (iI a0), .ptr [.sc (.int .i64 a1.f0), .sc (.int .i64 a1.f1), R 1 e72 z72 a1.f2]] [.c (.p (.sc (.bool r)))] := by
  unfold impl_PlanFault_3.f at h
  refine VCalls.of (fn := f175) (N := 9) func175 rfl rfl (fun w0 => ?_)
  obtain ⟨t1, g1, h⟩ := bindN h
  let C1 := mkCon (impl_RingsAt.ok k a1.f2 a0 t1 g1) impl_RingsAt.go
  cases h
  exact rt func175 [.call C1, .fin] (oc C1 on)

/-! ### impl_PlanFault_4: function 177 -/
def impl_PlanFault_4.f (k : Nat) (a0 : Int) (a1 : List Int) : Option Bool := (slices_Contains_int_int.f k a1 a0).bind fun t1 => some (!t1)
theorem impl_PlanFault_4.go : Callable prog 177 := ⟨_, func177, by kernel_rfl, rfl⟩
theorem impl_PlanFault_4.ok (k : Nat) (a0 : Int) (a1 : List Int) (r : Bool) (h : impl_PlanFault_4.f k a0 a1 = some r) : VCalls prog 177 [.c (iI a0), .ptr [R 1 (eI .i64) 0 a1]] [.c (.p (.sc (.bool r)))] := by
  unfold impl_PlanFault_4.f at h
  refine VCalls.of (fn := f177) (N := 8) func177 rfl rfl (fun w0 => ?_)
  obtain ⟨t1, g1, h⟩ := bindN h
  let C1 := mkCon (slices_Contains_int_int.ok k a1 a0 t1 g1) slices_Contains_int_int.go
  cases h
  exact rt func177 [.call C1, .fin] (oc C1 on)

/-! ### slices_IndexFunc_int_int_1: function 182 -/
def slices_IndexFunc_int_int_1.h0T (a0 : List Int) (gi1 : FuncId) (u1_0_0 : V) (v2 : Int) : List (Nat × AV) := [(0, .t (.c (.p false (R 1 (eI .i64) 0 a0)))), (1, .bfn gi1 [[u1_0_0]]), (7, .t (.c (.p true (.sc (.int .i64 (a0.length : Int)))))), (8, .t (.c (.p true (iI v2))))]
def slices_IndexFunc_int_int_1.h0H (a0 : List Int) (gi1 : FuncId) (u1_0_0 : V) (v2 : Int) : List (Nat × Content) := []
def slices_IndexFunc_int_int_1.l0 : Nat → List Int → (Int → Option Bool) → Int → Option Int
  | 0, _, _, _ => none
  | kq + 1, a0, p1, v2 => if v2 < (a0.length : Int) then (if 0 ≤ v2 then ((p1 (rdD 0 a0 v2)).bind fun t3 => if t3 = true then (some v2) else (slices_IndexFunc_int_int_1.l0 kq a0 p1 (w64 (v2 + 1)))) else none) else (some (-1))
def slices_IndexFunc_int_int_1.f (k : Nat) (a0 : List Int) (p1 : Int → Option Bool) : Option Int := slices_IndexFunc_int_int_1.l0 k a0 p1 0
theorem slices_IndexFunc_int_int_1.go : Callable prog 182 := ⟨_, func182, by kernel_rfl, rfl⟩
theorem slices_IndexFunc_int_int_1.ok (k : Nat) (a0 : List Int) (p1 : Int → Option Bool) (gi1 : FuncId) (u1_0_0 : V) (hp1 : ∀ x0 r, p1 x0 = some r → VCalls prog gi1 [.c (iI x0), .ptr [u1_0_0]] [.c (.p (.sc (.bool r)))]) (go1 : Callable prog gi1) (r : Int) (h : slices_IndexFunc_int_int_1.f k a0 p1 = some r) : VCalls prog 182 [.c (R 1 (eI .i64) 0 a0), .fn gi1 [[u1_0_0]]] [.c (.p (iI r))] := by
  unfold slices_IndexFunc_int_int_1.f at h
  refine VCalls.of (fn := f182) (N := 19) func182 rfl rfl (fun w0 => ?_)
  have H0 : ∀ (kq : Nat) (v2 : Int), slices_IndexFunc_int_int_1.l0 kq a0 p1 v2 = some r → AG prog 182 19 [.c (.p (iI r))] w0 (headStk (codeOf f182) 0) (mkFS (slices_IndexFunc_int_int_1.h0T a0 gi1 u1_0_0 v2) (slices_IndexFunc_int_int_1.h0H a0 gi1 u1_0_0 v2)) := by
    intro kq
    induction kq with
    | zero => intro v2 h; cases h
    | succ kq ih =>
      intro v2 h
      rw [slices_IndexFunc_int_int_1.l0] at h
      by_cases c4 : v2 < (a0.length : Int)
      · replace h := ip c4 h
        obtain ⟨c5, h⟩ := ifN h
        obtain ⟨t3, g6, h⟩ := bindN h
        let C6 := mkCon (hp1 (rdD 0 a0 v2) t3 g6) go1
        by_cases c7 : t3 = true
        · replace h := ip c7 h
          cases h
          exact rt func182 [.b true, .call C6, .b true, .fin] (oT c4 (o1 c5 (o1 c4 (oc C6 (o1 c7 on)))))
        · replace h := iq c7 h
          exact hd func182 [.b true, .call C6, .b false, .fin] (oT c4 (o1 c5 (o1 c4 (oc C6 (o1 (eqf c7) on))))) (ih (w64 (v2 + 1)) h)
      · replace h := iq c4 h
        cases h
        exact rt func182 [.b false, .fin, .fin] (oF c4 on)
  exact hd func182 [.fin] on (H0 k 0 h)

/-! ### slices_ContainsFunc_int_int_1: function 102 -/
def slices_ContainsFunc_int_int_1.f (k : Nat) (a0 : List Int) (p1 : Int → Option Bool) : Option Bool := (slices_IndexFunc_int_int_1.f k a0 p1).bind fun t1 => some (decide (0 ≤ t1))
theorem slices_ContainsFunc_int_int_1.go : Callable prog 102 := ⟨_, func102, by kernel_rfl, rfl⟩
theorem slices_ContainsFunc_int_int_1.ok (k : Nat) (a0 : List Int) (p1 : Int → Option Bool) (gi1 : FuncId) (u1_0_0 : V) (hp1 : ∀ x0 r, p1 x0 = some r → VCalls prog gi1 [.c (iI x0), .ptr [u1_0_0]] [.c (.p (.sc (.bool r)))]) (go1 : Callable prog gi1) (r : Bool) (h : slices_ContainsFunc_int_int_1.f k a0 p1 = some r) : VCalls prog 102 [.c (R 1 (eI .i64) 0 a0), .fn gi1 [[u1_0_0]]] [.c (.p (.sc (.bool r)))] := by
  unfold slices_ContainsFunc_int_int_1.f at h
  refine VCalls.of (fn := f102) (N := 9) func102 rfl rfl (fun w0 => ?_)
  obtain ⟨t1, g1, h⟩ := bindN h
  let C1 := mkCon (slices_IndexFunc_int_int_1.ok k a0 p1 gi1 u1_0_0 hp1 go1 t1 g1) slices_IndexFunc_int_int_1.go
  cases h
  exact rt func102 [.call C1, .fin] (oc C1 on)

/-! ### impl_movesAfter: function 218 -/
def impl_movesAfter.h0T (v2 : Int) (v3 : Int) (a0 : S72) : List (Nat × AV) := [(2, .ptr 128 0), (5, .t (.c (.p true (iI v2)))), (6, .t (.c (.p true (iI v3))))]
def impl_movesAfter.h0H (v2 : Int) (v3 : Int) (a0 : S72) : List (Nat × Content) := [(128, .box 72 [.p false (R 1 (eI .i64) 0 a0.f0)])]
def impl_movesAfter.l0 : Nat → S72 → Int → Int → Option Int
  | 0, _, _, _ => none
  | kq + 1, a0, v2, v3 => if v3 < (a0.f0.length : Int) then (if 0 ≤ v3 then (if 0 ≤ (w64 (v3 - 1)) then (if (w64 (v3 - 1)) < (a0.f0.length : Int) then (if (rdD 0 a0.f0 v3) = (rdD 0 a0.f0 (w64 (v3 - 1))) then (impl_movesAfter.l0 kq a0 v2 (w64 (v3 + 1))) else (impl_movesAfter.l0 kq a0 (w64 (v2 + 1)) (w64 (v3 + 1)))) else none) else none) else none) else (some v2)
def impl_movesAfter.f (k : Nat) (a0 : S72) (a1 : Int) : Option Int := impl_movesAfter.l0 k a0 0 (w64 ((if 0 > a1 then 0 else a1) + 1))
theorem impl_movesAfter.go : Callable prog 218 := ⟨_, func218, by kernel_rfl, rfl⟩
theorem impl_movesAfter.ok (k : Nat) (a0 : S72) (a1 : Int) (r : Int) (h : impl_movesAfter.f k a0 a1 = some r) : VCalls prog 218 [.agg (e72 a0), .c (iI a1)] [.c (.p (iI r))] := by
  unfold impl_movesAfter.f at h
  refine VCalls.of (fn := f218) (N := 32) func218 rfl rfl (fun w0 => ?_)
  have H0 : ∀ (kq : Nat) (v2 : Int) (v3 : Int), impl_movesAfter.l0 kq a0 v2 v3 = some r → AG prog 218 32 [.c (.p (iI r))] w0 (headStk (codeOf f218) 0) (mkFS (impl_movesAfter.h0T v2 v3 a0) (impl_movesAfter.h0H v2 v3 a0)) := by
    intro kq
    induction kq with
    | zero => intro v2 v3 h; cases h
    | succ kq ih =>
      intro v2 v3 h
      rw [impl_movesAfter.l0] at h
      by_cases c11 : v3 < (a0.f0.length : Int)
      · replace h := ip c11 h
        obtain ⟨c12, h⟩ := ifN h
        obtain ⟨c13, h⟩ := ifN h
        obtain ⟨c14, h⟩ := ifN h
        by_cases c15 : (rdD 0 a0.f0 v3) = (rdD 0 a0.f0 (w64 (v3 - 1)))
        · replace h := ip c15 h
          exact hd func218 [.b true, .b false, .fin] (oT c11 (o1 c12 (o1 c11 (o1 c13 (o1 c14 (o1 (bnf (decide_eq_true c15)) on)))))) (ih v2 (w64 (v3 + 1)) h)
        · replace h := iq c15 h
          exact hd func218 [.b true, .b true, .fin] (oT c11 (o1 c12 (o1 c11 (o1 c13 (o1 c14 (o1 (bnt (decide_eq_false c15)) on)))))) (ih (w64 (v2 + 1)) (w64 (v3 + 1)) h)
      · replace h := iq c11 h
        cases h
        exact rt func218 [.b false, .fin, .fin] (oF c11 on)
  exact hd func218 [.fin] on (H0 k 0 (w64 ((if 0 > a1 then 0 else a1) + 1)) h)

/-! ### impl_MovesOf: function 178 -/
def impl_MovesOf.h0T (v4 : Int) (a0 : List S72) (v5 : Int) : List (Nat × AV) := [(3, .t (.c (.p true (iI v4)))), (6, .t (.c (.p false (R 1 e72 z72 a0)))), (7, .t (.c (.p true (.sc (.int .i64 (a0.length : Int)))))), (8, .t (.c (.p true (iI v5))))]
def impl_MovesOf.h0H (v4 : Int) (a0 : List S72) (v5 : Int) : List (Nat × Content) := []
def impl_MovesOf.l0 : Nat → List S72 → Int → Int → Option Int
  | 0, _, _, _ => none
  | kq + 1, a0, v4, v5 => if v5 < (a0.length : Int) then (if 0 ≤ v5 then ((impl_movesAfter.f kq (rdD z72 a0 v5) 0).bind fun t6 => impl_MovesOf.l0 kq a0 (w64 (v4 + t6)) (w64 (v5 + 1))) else none) else (some v4)
def impl_MovesOf.f (k : Nat) (a0 : List S72) : Option Int := impl_MovesOf.l0 k a0 0 0
theorem impl_MovesOf.go : Callable prog 178 := ⟨_, func178, by kernel_rfl, rfl⟩
theorem impl_MovesOf.ok (k : Nat) (a0 : List S72) (r : Int) (h : impl_MovesOf.f k a0 = some r) : VCalls prog 178 [.c (R 1 e72 z72 a0)] [.c (.p (iI r))] := by
  unfold impl_MovesOf.f at h
  refine VCalls.of (fn := f178) (N := 18) func178 rfl rfl (fun w0 => ?_)
  have H0 : ∀ (kq : Nat) (v4 : Int) (v5 : Int), impl_MovesOf.l0 kq a0 v4 v5 = some r → AG prog 178 18 [.c (.p (iI r))] w0 (headStk (codeOf f178) 0) (mkFS (impl_MovesOf.h0T v4 a0 v5) (impl_MovesOf.h0H v4 a0 v5)) := by
    intro kq
    induction kq with
    | zero => intro v4 v5 h; cases h
    | succ kq ih =>
      intro v4 v5 h
      rw [impl_MovesOf.l0] at h
      by_cases c5 : v5 < (a0.length : Int)
      · replace h := ip c5 h
        obtain ⟨c6, h⟩ := ifN h
        obtain ⟨t6, g7, h⟩ := bindN h
        let C7 := mkCon (impl_movesAfter.ok kq (rdD z72 a0 v5) 0 t6 g7) impl_movesAfter.go
        exact hd func178 [.b true, .call C7, .fin] (oT c5 (o1 c6 (o1 c5 (oc C7 on)))) (ih (w64 (v4 + t6)) (w64 (v5 + 1)) h)
      · replace h := iq c5 h
        cases h
        exact rt func178 [.b false, .fin, .fin] (oF c5 on)
  exact hd func178 [.fin] on (H0 k 0 0 h)

/-! ### impl_PlanFault: function 97 -/
def impl_PlanFault.f (k : Nat) (a0 : S38) (a1 : List Int) (a2 : List Int) (a3 : S45) : Option Int := (impl_EndsOf.f k a3.f2).bind fun t1 => (impl_AskOk.f k a0 a1 a2 a3.f0).bind fun t2 => if t2 = true then ((impl_formFault.f k a1 a3).bind fun t3 => if t3 = true then (some 2) else ((impl_stepFault.f k a0 a3.f2).bind fun t4 => if t4 = true then (some 3) else ((impl_someTime_3.f k a3.f0 (fun x8 => impl_PlanFault_1.f k x8 a3)).bind fun t5 => if t5 = true then (some 4) else ((impl_someTime_3.f k a3.f0 (fun x11 => impl_PlanFault_2.f k x11 a3)).bind fun t6 => if t6 = true then (some 5) else ((impl_someTime_3.f k a3.f0 (fun x14 => impl_PlanFault_3.f k x14 a3)).bind fun t7 => if t7 = true then (some 6) else ((slices_ContainsFunc_int_int_1.f k a2 (fun x17 => impl_PlanFault_4.f k x17 t1)).bind fun t8 => if t8 = true then (some 7) else ((impl_MovesOf.f k a3.f2).bind fun t9 => if a3.f1 = t9 then (some 0) else (some 8)))))))) else (some 1)
theorem impl_PlanFault.go : Callable prog 97 := ⟨_, func97, by kernel_rfl, rfl⟩
theorem impl_PlanFault.ok (k : Nat) (a0 : S38) (a1 : List Int) (a2 : List Int) (a3 : S45) (r : Int) (h : impl_PlanFault.f k a0 a1 a2 a3 = some r) : VCalls prog 97 [.agg (e38 a0), .c (R 1 (eI .i64) 0 a1), .c (R 1 (eI .i64) 0 a2), .agg (e45 a3)] [.c (.p (iI r))] := by
  unfold impl_PlanFault.f at h
  refine VCalls.of (fn := f97) (N := 56) func97 rfl rfl (fun w0 => ?_)
  obtain ⟨t1, g1, h⟩ := bindN h
  let C1 := mkCon (impl_EndsOf.ok k a3.f2 t1 g1) impl_EndsOf.go
  obtain ⟨t2, g2, h⟩ := bindN h
  let C2 := mkCon (impl_AskOk.ok k a0 a1 a2 a3.f0 t2 g2) impl_AskOk.go
  by_cases c3 : t2 = true
  · replace h := ip c3 h
    obtain ⟨t3, g4, h⟩ := bindN h
    let C4 := mkCon (impl_formFault.ok k a1 a3 t3 g4) impl_formFault.go
    by_cases c5 : t3 = true
    · replace h := ip c5 h
      cases h
      exact rt func97 [.call C1, .call C2, .b false, .call C4, .b true, .fin] (oc C1 (oc C2 (o1 (bnf c3) (oc C4 (o1 c5 on)))))
    · replace h := iq c5 h
      obtain ⟨t4, g6, h⟩ := bindN h
      let C6 := mkCon (impl_stepFault.ok k a0 a3.f2 t4 g6) impl_stepFault.go
      by_cases c7 : t4 = true
      · replace h := ip c7 h
        cases h
        exact rt func97 [.call C1, .call C2, .b false, .call C4, .b false, .call C6, .b true, .fin] (oc C1 (oc C2 (o1 (bnf c3) (oc C4 (o1 (eqf c5) (oc C6 (o1 c7 on)))))))
      · replace h := iq c7 h
        obtain ⟨t5, g9, h⟩ := bindN h
        let C9 := mkCon (impl_someTime_3.ok k a3.f0 (fun x8 => impl_PlanFault_1.f k x8 a3) 171 (iI a3.f0) (iI a3.f1) (R 1 e72 z72 a3.f2) (fun x8 r h => impl_PlanFault_1.ok k x8 a3 r h) impl_PlanFault_1.go t5 g9) impl_someTime_3.go
        by_cases c10 : t5 = true
        · replace h := ip c10 h
          cases h
          exact rt func97 [.call C1, .call C2, .b false, .call C4, .b false, .call C6, .b false, .call C9, .b true, .fin] (oc C1 (oc C2 (o1 (bnf c3) (oc C4 (o1 (eqf c5) (oc C6 (o1 (eqf c7) (oc C9 (o1 c10 on)))))))))
        · replace h := iq c10 h
          obtain ⟨t6, g12, h⟩ := bindN h
          let C12 := mkCon (impl_someTime_3.ok k a3.f0 (fun x11 => impl_PlanFault_2.f k x11 a3) 173 (iI a3.f0) (iI a3.f1) (R 1 e72 z72 a3.f2) (fun x11 r h => impl_PlanFault_2.ok k x11 a3 r h) impl_PlanFault_2.go t6 g12) impl_someTime_3.go
          by_cases c13 : t6 = true
          · replace h := ip c13 h
            cases h
            exact rt func97 [.call C1, .call C2, .b false, .call C4, .b false, .call C6, .b false, .call C9, .b false, .call C12, .b true, .fin] (oc C1 (oc C2 (o1 (bnf c3) (oc C4 (o1 (eqf c5) (oc C6 (o1 (eqf c7) (oc C9 (o1 (eqf c10) (oc C12 (o1 c13 on)))))))))))
          · replace h := iq c13 h
            obtain ⟨t7, g15, h⟩ := bindN h
            let C15 := mkCon (impl_someTime_3.ok k a3.f0 (fun x14 => impl_PlanFault_3.f k x14 a3) 175 (iI a3.f0) (iI a3.f1) (R 1 e72 z72 a3.f2) (fun x14 r h => impl_PlanFault_3.ok k x14 a3 r h) impl_PlanFault_3.go t7 g15) impl_someTime_3.go
            by_cases c16 : t7 = true
            · replace h := ip c16 h
              cases h
              exact rt func97 [.call C1, .call C2, .b false, .call C4, .b false, .call C6, .b false, .call C9, .b false, .call C12, .b false, .call C15, .b true, .fin] (oc C1 (oc C2 (o1 (bnf c3) (oc C4 (o1 (eqf c5) (oc C6 (o1 (eqf c7) (oc C9 (o1 (eqf c10) (oc C12 (o1 (eqf c13) (oc C15 (o1 c16 on)))))))))))))
            · replace h := iq c16 h
              obtain ⟨t8, g18, h⟩ := bindN h
              let C18 := mkCon (slices_ContainsFunc_int_int_1.ok k a2 (fun x17 => impl_PlanFault_4.f k x17 t1) 177 (R 1 (eI .i64) 0 t1) (fun x17 r h => impl_PlanFault_4.ok k x17 t1 r h) impl_PlanFault_4.go t8 g18) slices_ContainsFunc_int_int_1.go
              by_cases c19 : t8 = true
              · replace h := ip c19 h
                cases h
                exact rt func97 [.call C1, .call C2, .b false, .call C4, .b false, .call C6, .b false, .call C9, .b false, .call C12, .b false, .call C15, .b false, .call C18, .b true, .fin] (oc C1 (oc C2 (o1 (bnf c3) (oc C4 (o1 (eqf c5) (oc C6 (o1 (eqf c7) (oc C9 (o1 (eqf c10) (oc C12 (o1 (eqf c13) (oc C15 (o1 (eqf c16) (oc C18 (o1 c19 on)))))))))))))))
              · replace h := iq c19 h
                obtain ⟨t9, g20, h⟩ := bindN h
                let C20 := mkCon (impl_MovesOf.ok k a3.f2 t9 g20) impl_MovesOf.go
                by_cases c21 : a3.f1 = t9
                · replace h := ip c21 h
                  cases h
                  exact rt func97 [.call C1, .call C2, .b false, .call C4, .b false, .call C6, .b false, .call C9, .b false, .call C12, .b false, .call C15, .b false, .call C18, .b false, .call C20, .b false, .fin] (oc C1 (oc C2 (o1 (bnf c3) (oc C4 (o1 (eqf c5) (oc C6 (o1 (eqf c7) (oc C9 (o1 (eqf c10) (oc C12 (o1 (eqf c13) (oc C15 (o1 (eqf c16) (oc C18 (o1 (eqf c19) (oc C20 (o1 (bnf (decide_eq_true c21)) on)))))))))))))))))
                · replace h := iq c21 h
                  cases h
                  exact rt func97 [.call C1, .call C2, .b false, .call C4, .b false, .call C6, .b false, .call C9, .b false, .call C12, .b false, .call C15, .b false, .call C18, .b false, .call C20, .b true, .fin] (oc C1 (oc C2 (o1 (bnf c3) (oc C4 (o1 (eqf c5) (oc C6 (o1 (eqf c7) (oc C9 (o1 (eqf c10) (oc C12 (o1 (eqf c13) (oc C15 (o1 (eqf c16) (oc C18 (o1 (eqf c19) (oc C20 (o1 (bnt (decide_eq_false c21)) on)))))))))))))))))
  · replace h := iq c3 h
    cases h
    exact rt func97 [.call C1, .call C2, .b true, .fin] (oc C1 (oc C2 (oN c3 on)))

/-! ### impl_YardOk_1: function 101 -/
def impl_YardOk_1.f (a0 : S74) (a1 : S69) : Option Bool := some (decide (a0.f0 = a1.f0))
theorem impl_YardOk_1.go : Callable prog 101 := ⟨_, func101, by kernel_rfl, rfl⟩
theorem impl_YardOk_1.ok (a0 : S74) (a1 : S69) (r : Bool) (h : impl_YardOk_1.f a0 a1 = some r) : VCalls prog 101 [.agg (e74 a0), .ptr [.sc (.int .i64 a1.f0), .sc (.int .i64 a1.f1), .sc (.int .i64 a1.f2), .sc (.bool a1.f3)]] [.c (.p (.sc (.bool r)))] := by
  unfold impl_YardOk_1.f at h
  refine VCalls.of (fn := f101) (N := 9) func101 rfl rfl (fun w0 => ?_)
  cases h
  exact rt func101 [.fin] on

/-! ### slices_IndexFunc_impl_Job_impl_Job_4: function 59 -/
def slices_IndexFunc_impl_Job_impl_Job_4.h0T (a0 : List S74) (gi1 : FuncId) (u1_0_0 : V) (u1_0_1 : V) (u1_0_2 : V) (u1_0_3 : V) (v2 : Int) : List (Nat × AV) := [(0, .t (.c (.p false (R 3 e74 z74 a0)))), (1, .bfn gi1 [[u1_0_0, u1_0_1, u1_0_2, u1_0_3]]), (7, .t (.c (.p true (.sc (.int .i64 (a0.length : Int)))))), (8, .t (.c (.p true (iI v2))))]
def slices_IndexFunc_impl_Job_impl_Job_4.h0H (a0 : List S74) (gi1 : FuncId) (u1_0_0 : V) (u1_0_1 : V) (u1_0_2 : V) (u1_0_3 : V) (v2 : Int) : List (Nat × Content) := []
def slices_IndexFunc_impl_Job_impl_Job_4.l0 : Nat → List S74 → (S74 → Option Bool) → Int → Option Int
  | 0, _, _, _ => none
  | kq + 1, a0, p1, v2 => if v2 < (a0.length : Int) then (if 0 ≤ v2 then ((p1 (rdD z74 a0 v2)).bind fun t3 => if t3 = true then (some v2) else (slices_IndexFunc_impl_Job_impl_Job_4.l0 kq a0 p1 (w64 (v2 + 1)))) else none) else (some (-1))
def slices_IndexFunc_impl_Job_impl_Job_4.f (k : Nat) (a0 : List S74) (p1 : S74 → Option Bool) : Option Int := slices_IndexFunc_impl_Job_impl_Job_4.l0 k a0 p1 0
theorem slices_IndexFunc_impl_Job_impl_Job_4.go : Callable prog 59 := ⟨_, func59, by kernel_rfl, rfl⟩
theorem slices_IndexFunc_impl_Job_impl_Job_4.ok (k : Nat) (a0 : List S74) (p1 : S74 → Option Bool) (gi1 : FuncId) (u1_0_0 u1_0_1 u1_0_2 u1_0_3 : V) (hp1 : ∀ x0 r, p1 x0 = some r → VCalls prog gi1 [.agg (e74 x0), .ptr [u1_0_0, u1_0_1, u1_0_2, u1_0_3]] [.c (.p (.sc (.bool r)))]) (go1 : Callable prog gi1) (r : Int) (h : slices_IndexFunc_impl_Job_impl_Job_4.f k a0 p1 = some r) : VCalls prog 59 [.c (R 3 e74 z74 a0), .fn gi1 [[u1_0_0, u1_0_1, u1_0_2, u1_0_3]]] [.c (.p (iI r))] := by
  unfold slices_IndexFunc_impl_Job_impl_Job_4.f at h
  refine VCalls.of (fn := f59) (N := 19) func59 rfl rfl (fun w0 => ?_)
  have H0 : ∀ (kq : Nat) (v2 : Int), slices_IndexFunc_impl_Job_impl_Job_4.l0 kq a0 p1 v2 = some r → AG prog 59 19 [.c (.p (iI r))] w0 (headStk (codeOf f59) 0) (mkFS (slices_IndexFunc_impl_Job_impl_Job_4.h0T a0 gi1 u1_0_0 u1_0_1 u1_0_2 u1_0_3 v2) (slices_IndexFunc_impl_Job_impl_Job_4.h0H a0 gi1 u1_0_0 u1_0_1 u1_0_2 u1_0_3 v2)) := by
    intro kq
    induction kq with
    | zero => intro v2 h; cases h
    | succ kq ih =>
      intro v2 h
      rw [slices_IndexFunc_impl_Job_impl_Job_4.l0] at h
      by_cases c4 : v2 < (a0.length : Int)
      · replace h := ip c4 h
        obtain ⟨c5, h⟩ := ifN h
        obtain ⟨t3, g6, h⟩ := bindN h
        let C6 := mkCon (hp1 (rdD z74 a0 v2) t3 g6) go1
        by_cases c7 : t3 = true
        · replace h := ip c7 h
          cases h
          exact rt func59 [.b true, .call C6, .b true, .fin] (oT c4 (o1 c5 (o1 c4 (oc C6 (o1 c7 on)))))
        · replace h := iq c7 h
          exact hd func59 [.b true, .call C6, .b false, .fin] (oT c4 (o1 c5 (o1 c4 (oc C6 (o1 (eqf c7) on))))) (ih (w64 (v2 + 1)) h)
      · replace h := iq c4 h
        cases h
        exact rt func59 [.b false, .fin, .fin] (oF c4 on)
  exact hd func59 [.fin] on (H0 k 0 h)

/-! ### slices_ContainsFunc_impl_Job_impl_Job_4: function 100 -/
def slices_ContainsFunc_impl_Job_impl_Job_4.f (k : Nat) (a0 : List S74) (p1 : S74 → Option Bool) : Option Bool := (slices_IndexFunc_impl_Job_impl_Job_4.f k a0 p1).bind fun t1 => some (decide (0 ≤ t1))
theorem slices_ContainsFunc_impl_Job_impl_Job_4.go : Callable prog 100 := ⟨_, func100, by kernel_rfl, rfl⟩
theorem slices_ContainsFunc_impl_Job_impl_Job_4.ok (k : Nat) (a0 : List S74) (p1 : S74 → Option Bool) (gi1 : FuncId) (u1_0_0 u1_0_1 u1_0_2 u1_0_3 : V) (hp1 : ∀ x0 r, p1 x0 = some r → VCalls prog gi1 [.agg (e74 x0), .ptr [u1_0_0, u1_0_1, u1_0_2, u1_0_3]] [.c (.p (.sc (.bool r)))]) (go1 : Callable prog gi1) (r : Bool) (h : slices_ContainsFunc_impl_Job_impl_Job_4.f k a0 p1 = some r) : VCalls prog 100 [.c (R 3 e74 z74 a0), .fn gi1 [[u1_0_0, u1_0_1, u1_0_2, u1_0_3]]] [.c (.p (.sc (.bool r)))] := by
  unfold slices_ContainsFunc_impl_Job_impl_Job_4.f at h
  refine VCalls.of (fn := f100) (N := 9) func100 rfl rfl (fun w0 => ?_)
  obtain ⟨t1, g1, h⟩ := bindN h
  let C1 := mkCon (slices_IndexFunc_impl_Job_impl_Job_4.ok k a0 p1 gi1 u1_0_0 u1_0_1 u1_0_2 u1_0_3 hp1 go1 t1 g1) slices_IndexFunc_impl_Job_impl_Job_4.go
  cases h
  exact rt func100 [.call C1, .fin] (oc C1 on)

/-! ### impl_YardOk_2: function 104 -/
def impl_YardOk_2.f (k : Nat) (a0 : Int) (a1 : List Int) : Option Bool := (slices_Contains_int_int.f k a1 a0).bind fun t1 => some t1
theorem impl_YardOk_2.go : Callable prog 104 := ⟨_, func104, by kernel_rfl, rfl⟩
theorem impl_YardOk_2.ok (k : Nat) (a0 : Int) (a1 : List Int) (r : Bool) (h : impl_YardOk_2.f k a0 a1 = some r) : VCalls prog 104 [.c (iI a0), .ptr [R 1 (eI .i64) 0 a1]] [.c (.p (.sc (.bool r)))] := by
  unfold impl_YardOk_2.f at h
  refine VCalls.of (fn := f104) (N := 7) func104 rfl rfl (fun w0 => ?_)
  obtain ⟨t1, g1, h⟩ := bindN h
  let C1 := mkCon (slices_Contains_int_int.ok k a1 a0 t1 g1) slices_Contains_int_int.go
  cases h
  exact rt func104 [.call C1, .fin] (oc C1 on)

/-! ### impl_YardOk: function 40 -/
def impl_YardOk.h0T (a0 : S48) (v12 : Int) (t7 : List Int) : List (Nat × AV) := [(1, .ptr 64 0), (4, .ptr 256 0), (90, .t (.c (.p false (R 4 e69 z69 a0.f1)))), (91, .t (.c (.p true (.sc (.int .i64 (a0.f1.length : Int)))))), (92, .t (.c (.p true (iI v12))))]
def impl_YardOk.h0H (a0 : S48) (v12 : Int) (t7 : List Int) : List (Nat × Content) := [(64, .box 48 [.p false (iI a0.f0.f0.f0), .p false (iI a0.f0.f0.f1), .p false (.sc (.string a0.f0.f0.f2)), .p false (iI a0.f0.f1), .p false (iI a0.f0.f2), .p false (iI a0.f0.f3), .p false (iI a0.f0.f4), .p false (R 4 e69 z69 a0.f1), .p false (iI a0.f2.f0), .p false (iI a0.f2.f1), .p false (R 1 (eI .i64) 0 a0.f2.f2), .p false (iI a0.f3), .p false (.sc (.bool a0.f4)), .p false (iI a0.f5.f0), .p false (iI a0.f5.f1), .p false (R 1 e72 z72 a0.f5.f2), .p false (R 3 e74 z74 a0.f6), .p false (R 1 (eI .i64) 0 a0.f7)]), (256, .box 27 [.h 4736]), (4736, .row 3 1 t7.length (fun j => (eI .i64) (t7.getD j 0)) true)]
def impl_YardOk.l0 : Nat → S48 → List Int → Int → Option Bool
  | 0, _, _, _ => none
  | kq + 1, a0, t7, v12 => if v12 < (a0.f1.length : Int) then (if 0 ≤ v12 then ((slices_ContainsFunc_impl_Job_impl_Job_4.f kq a0.f6 (fun x29 => impl_YardOk_1.f x29 (rdD z69 a0.f1 v12))).bind fun t13 => if t13 = true then (impl_YardOk.l0 kq a0 t7 (w64 (v12 + 1))) else ((impl_heldBy.f (rdD z69 a0.f1 v12)).bind fun t14 => (slices_ContainsFunc_int_int_1.f kq t14 (fun x33 => impl_YardOk_2.f kq x33 t7)).bind fun t15 => if t15 = true then (some false) else (impl_YardOk.l0 kq a0 t7 (w64 (v12 + 1))))) else none) else (some true)
def impl_YardOk.f (k : Nat) (a0 : S48) : Option Bool := (impl_SetupOk.f k a0.f0).bind fun t1 => if t1 = true then ((impl_RobotsOk.f k a0.f0.f0 a0.f1).bind fun t2 => if t2 = true then ((impl_WindowOk.f k a0.f2).bind fun t3 => if t3 = true then (if a0.f2.f0 = a0.f0.f2 then (if a0.f2.f1 = a0.f0.f3 then (if a0.f3 < 0 then (some false) else (if 1000000000 < a0.f3 then (some false) else ((impl_JobsOk.f k a0).bind fun t4 => if t4 = true then ((impl_areFree.f k a0.f0.f0 a0.f7).bind fun t5 => if t5 = true then ((impl_isAscending.f k a0.f7).bind fun t6 => if t6 = true then (if a0.f4 = true then ((impl_Footprint.f k a0).bind fun t7 => (impl_onlyCells.f k a0.f0.f0 t7).bind fun t8 => (impl_firstCells.f k a0.f5.f2).bind fun t9 => (impl_PlanFault.f k t8 t9 a0.f7 a0.f5).bind fun t10 => if t10 = 0 then (impl_YardOk.l0 k a0 t7 0) else (some false)) else (some true)) else (some false)) else (some false)) else (some false)))) else (some false)) else (some false)) else (some false)) else (some false)) else (some false)
theorem impl_YardOk.go : Callable prog 40 := ⟨_, func40, by kernel_rfl, rfl⟩
theorem impl_YardOk.ok (k : Nat) (a0 : S48) (r : Bool) (h : impl_YardOk.f k a0 = some r) : VCalls prog 40 [.agg (e48 a0)] [.c (.p (.sc (.bool r)))] := by
  unfold impl_YardOk.f at h
  refine VCalls.of (fn := f40) (N := 109) func40 rfl rfl (fun w0 => ?_)
  obtain ⟨t1, g1, h⟩ := bindN h
  let C1 := mkCon (impl_SetupOk.ok k a0.f0 t1 g1) impl_SetupOk.go
  by_cases c2 : t1 = true
  · replace h := ip c2 h
    obtain ⟨t2, g3, h⟩ := bindN h
    let C3 := mkCon (impl_RobotsOk.ok k a0.f0.f0 a0.f1 t2 g3) impl_RobotsOk.go
    by_cases c4 : t2 = true
    · replace h := ip c4 h
      obtain ⟨t3, g5, h⟩ := bindN h
      let C5 := mkCon (impl_WindowOk.ok k a0.f2 t3 g5) impl_WindowOk.go
      by_cases c6 : t3 = true
      · replace h := ip c6 h
        by_cases c7 : a0.f2.f0 = a0.f0.f2
        · replace h := ip c7 h
          by_cases c8 : a0.f2.f1 = a0.f0.f3
          · replace h := ip c8 h
            by_cases c9 : a0.f3 < 0
            · replace h := ip c9 h
              cases h
              exact rt func40 [.call C1, .dec 13 false, .call C3, .dec 21 false, .call C5, .dec 27 false, .dec 35 false, .b false, .dec 46 true, .b true, .fin] (oc C1 (o1 (bnf c2) (oc C3 (o1 (bnf c4) (oc C5 (o1 (bnf c6) (o1 (bnf (decide_eq_true c7)) (o1 (bnf (decide_eq_true c8)) (oT c9 (oR on))))))))))
            · replace h := iq c9 h
              by_cases c10 : 1000000000 < a0.f3
              · replace h := ip c10 h
                cases h
                exact rt func40 [.call C1, .dec 13 false, .call C3, .dec 21 false, .call C5, .dec 27 false, .dec 35 false, .b false, .dec 46 false, .dec 51 true, .b true, .fin] (oc C1 (o1 (bnf c2) (oc C3 (o1 (bnf c4) (oc C5 (o1 (bnf c6) (o1 (bnf (decide_eq_true c7)) (o1 (bnf (decide_eq_true c8)) (oF c9 (oT c10 (oR on)))))))))))
              · replace h := iq c10 h
                obtain ⟨t4, g11, h⟩ := bindN h
                let C11 := mkCon (impl_JobsOk.ok k a0 t4 g11) impl_JobsOk.go
                by_cases c12 : t4 = true
                · replace h := ip c12 h
                  obtain ⟨t5, g13, h⟩ := bindN h
                  let C13 := mkCon (impl_areFree.ok k a0.f0.f0 a0.f7 t5 g13) impl_areFree.go
                  by_cases c14 : t5 = true
                  · replace h := ip c14 h
                    obtain ⟨t6, g15, h⟩ := bindN h
                    let C15 := mkCon (impl_isAscending.ok k a0.f7 t6 g15) impl_isAscending.go
                    by_cases c16 : t6 = true
                    · replace h := ip c16 h
                      by_cases c17 : a0.f4 = true
                      · replace h := ip c17 h
                        obtain ⟨t7, g18, h⟩ := bindN h
                        let C18 := mkCon (impl_Footprint.ok k a0 t7 g18) impl_Footprint.go
                        obtain ⟨t8, g19, h⟩ := bindN h
                        let C19 := mkCon (impl_onlyCells.ok k a0.f0.f0 t7 t8 g19) impl_onlyCells.go
                        obtain ⟨t9, g20, h⟩ := bindN h
                        let C20 := mkCon (impl_firstCells.ok k a0.f5.f2 t9 g20) impl_firstCells.go
                        obtain ⟨t10, g21, h⟩ := bindN h
                        let C21 := mkCon (impl_PlanFault.ok k t8 t9 a0.f7 a0.f5 t10 g21) impl_PlanFault.go
                        by_cases c22 : t10 = 0
                        · replace h := ip c22 h
                          have H0 : ∀ (kq : Nat) (v12 : Int), impl_YardOk.l0 kq a0 t7 v12 = some r → AG prog 40 109 [.c (.p (.sc (.bool r)))] w0 (headStk (codeOf f40) 0) (mkFS (impl_YardOk.h0T a0 v12 t7) (impl_YardOk.h0H a0 v12 t7)) := by
                            intro kq
                            induction kq with
                            | zero => intro v12 h; cases h
                            | succ kq ih =>
                              intro v12 h
                              rw [impl_YardOk.l0] at h
                              by_cases c27 : v12 < (a0.f1.length : Int)
                              · replace h := ip c27 h
                                obtain ⟨c28, h⟩ := ifN h
                                obtain ⟨t13, g30, h⟩ := bindN h
                                let C30 := mkCon (slices_ContainsFunc_impl_Job_impl_Job_4.ok kq a0.f6 (fun x29 => impl_YardOk_1.f x29 (rdD z69 a0.f1 v12)) 101 (.sc (.int .i64 ((rdD z69 a0.f1 v12).f0))) (.sc (.int .i64 ((rdD z69 a0.f1 v12).f1))) (.sc (.int .i64 ((rdD z69 a0.f1 v12).f2))) (.sc (.bool ((rdD z69 a0.f1 v12).f3))) (fun x29 r h => impl_YardOk_1.ok x29 (rdD z69 a0.f1 v12) r h) impl_YardOk_1.go t13 g30) slices_ContainsFunc_impl_Job_impl_Job_4.go
                                by_cases c31 : t13 = true
                                · replace h := ip c31 h
                                  exact hd func40 [.b true, .call C30, .dec 102 false, .b false, .fin] (oT c27 (o1 c28 (o1 c27 (oc C30 (o1 (bnf c31) (o1 (rfl : false = false) on)))))) (ih (w64 (v12 + 1)) h)
                                · replace h := iq c31 h
                                  obtain ⟨t14, g32, h⟩ := bindN h
                                  let C32 := mkCon (impl_heldBy.ok (rdD z69 a0.f1 v12) t14 g32) impl_heldBy.go
                                  obtain ⟨t15, g34, h⟩ := bindN h
                                  let C34 := mkCon (slices_ContainsFunc_int_int_1.ok kq t14 (fun x33 => impl_YardOk_2.f kq x33 t7) 104 (R 1 (eI .i64) 0 t7) (fun x33 r h => impl_YardOk_2.ok kq x33 t7 r h) impl_YardOk_2.go t15 g34) slices_ContainsFunc_int_int_1.go
                                  by_cases c35 : t15 = true
                                  · replace h := ip c35 h
                                    cases h
                                    exact rt func40 [.b true, .call C30, .dec 102 true, .call C32, .call C34, .b true, .fin] (oT c27 (o1 c28 (o1 c27 (oc C30 (oN c31 (oc C32 (oc C34 (o1 c35 on))))))))
                                  · replace h := iq c35 h
                                    exact hd func40 [.b true, .call C30, .dec 102 true, .call C32, .call C34, .b false, .fin] (oT c27 (o1 c28 (o1 c27 (oc C30 (oN c31 (oc C32 (oc C34 (o1 (eqf c35) on)))))))) (ih (w64 (v12 + 1)) h)
                              · replace h := iq c27 h
                                cases h
                                exact rt func40 [.b false, .fin, .fin] (oF c27 on)
                          exact hd func40 [.call C1, .dec 13 false, .call C3, .dec 21 false, .call C5, .dec 27 false, .dec 35 false, .b false, .dec 46 false, .dec 51 false, .call C11, .dec 56 false, .call C13, .dec 64 false, .call C15, .b false, .b false, .call C18, .call C19, .call C20, .call C21, .b false, .fin] (oc C1 (o1 (bnf c2) (oc C3 (o1 (bnf c4) (oc C5 (o1 (bnf c6) (o1 (bnf (decide_eq_true c7)) (o1 (bnf (decide_eq_true c8)) (oF c9 (oF c10 (oc C11 (o1 (bnf c12) (oc C13 (o1 (bnf c14) (oc C15 (o1 (bnf c16) (o1 (bnf c17) (oc C18 (oc C19 (oc C20 (oc C21 (o1 (bnf (decide_eq_true c22)) on)))))))))))))))))))))) (H0 k 0 h)
                        · replace h := iq c22 h
                          cases h
                          exact rt func40 [.call C1, .dec 13 false, .call C3, .dec 21 false, .call C5, .dec 27 false, .dec 35 false, .b false, .dec 46 false, .dec 51 false, .call C11, .dec 56 false, .call C13, .dec 64 false, .call C15, .b false, .b false, .call C18, .call C19, .call C20, .call C21, .b true, .fin] (oc C1 (o1 (bnf c2) (oc C3 (o1 (bnf c4) (oc C5 (o1 (bnf c6) (o1 (bnf (decide_eq_true c7)) (o1 (bnf (decide_eq_true c8)) (oF c9 (oF c10 (oc C11 (o1 (bnf c12) (oc C13 (o1 (bnf c14) (oc C15 (o1 (bnf c16) (o1 (bnf c17) (oc C18 (oc C19 (oc C20 (oc C21 (o1 (bnt (decide_eq_false c22)) on))))))))))))))))))))))
                      · replace h := iq c17 h
                        cases h
                        exact rt func40 [.call C1, .dec 13 false, .call C3, .dec 21 false, .call C5, .dec 27 false, .dec 35 false, .b false, .dec 46 false, .dec 51 false, .call C11, .dec 56 false, .call C13, .dec 64 false, .call C15, .b false, .b true, .fin] (oc C1 (o1 (bnf c2) (oc C3 (o1 (bnf c4) (oc C5 (o1 (bnf c6) (o1 (bnf (decide_eq_true c7)) (o1 (bnf (decide_eq_true c8)) (oF c9 (oF c10 (oc C11 (o1 (bnf c12) (oc C13 (o1 (bnf c14) (oc C15 (o1 (bnf c16) (oN c17 on)))))))))))))))))
                    · replace h := iq c16 h
                      cases h
                      exact rt func40 [.call C1, .dec 13 false, .call C3, .dec 21 false, .call C5, .dec 27 false, .dec 35 false, .b false, .dec 46 false, .dec 51 false, .call C11, .dec 56 false, .call C13, .dec 64 false, .call C15, .b true, .fin] (oc C1 (o1 (bnf c2) (oc C3 (o1 (bnf c4) (oc C5 (o1 (bnf c6) (o1 (bnf (decide_eq_true c7)) (o1 (bnf (decide_eq_true c8)) (oF c9 (oF c10 (oc C11 (o1 (bnf c12) (oc C13 (o1 (bnf c14) (oc C15 (oN c16 on))))))))))))))))
                  · replace h := iq c14 h
                    cases h
                    exact rt func40 [.call C1, .dec 13 false, .call C3, .dec 21 false, .call C5, .dec 27 false, .dec 35 false, .b false, .dec 46 false, .dec 51 false, .call C11, .dec 56 false, .call C13, .dec 64 true, .b true, .fin] (oc C1 (o1 (bnf c2) (oc C3 (o1 (bnf c4) (oc C5 (o1 (bnf c6) (o1 (bnf (decide_eq_true c7)) (o1 (bnf (decide_eq_true c8)) (oF c9 (oF c10 (oc C11 (o1 (bnf c12) (oc C13 (oN c14 (oR on)))))))))))))))
                · replace h := iq c12 h
                  cases h
                  exact rt func40 [.call C1, .dec 13 false, .call C3, .dec 21 false, .call C5, .dec 27 false, .dec 35 false, .b false, .dec 46 false, .dec 51 false, .call C11, .dec 56 true, .b true, .fin] (oc C1 (o1 (bnf c2) (oc C3 (o1 (bnf c4) (oc C5 (o1 (bnf c6) (o1 (bnf (decide_eq_true c7)) (o1 (bnf (decide_eq_true c8)) (oF c9 (oF c10 (oc C11 (oN c12 (oR on)))))))))))))
          · replace h := iq c8 h
            cases h
            exact rt func40 [.call C1, .dec 13 false, .call C3, .dec 21 false, .call C5, .dec 27 false, .dec 35 false, .b true, .fin] (oc C1 (o1 (bnf c2) (oc C3 (o1 (bnf c4) (oc C5 (o1 (bnf c6) (o1 (bnf (decide_eq_true c7)) (o1 (bnt (decide_eq_false c8)) on))))))))
        · replace h := iq c7 h
          cases h
          exact rt func40 [.call C1, .dec 13 false, .call C3, .dec 21 false, .call C5, .dec 27 false, .dec 35 true, .b true, .fin] (oc C1 (o1 (bnf c2) (oc C3 (o1 (bnf c4) (oc C5 (o1 (bnf c6) (o1 (bnt (decide_eq_false c7)) (oR on))))))))
      · replace h := iq c6 h
        cases h
        exact rt func40 [.call C1, .dec 13 false, .call C3, .dec 21 false, .call C5, .dec 27 true, .b true, .fin] (oc C1 (o1 (bnf c2) (oc C3 (o1 (bnf c4) (oc C5 (oN c6 (oR on)))))))
    · replace h := iq c4 h
      cases h
      exact rt func40 [.call C1, .dec 13 false, .call C3, .dec 21 true, .b true, .fin] (oc C1 (o1 (bnf c2) (oc C3 (oN c4 (oR on)))))
  · replace h := iq c2 h
    cases h
    exact rt func40 [.call C1, .dec 13 true, .b true, .fin] (oc C1 (oN c2 (oR on)))

/-! ### impl_flag: function 41 -/
def impl_flag.f (a0 : Bool) : Option Int := if a0 = true then (some 1) else (some 0)
theorem impl_flag.go : Callable prog 41 := ⟨_, func41, by kernel_rfl, rfl⟩
theorem impl_flag.ok (a0 : Bool) (r : Int) (h : impl_flag.f a0 = some r) : VCalls prog 41 [.c (.sc (.bool a0))] [.c (.p (iI r))] := by
  unfold impl_flag.f at h
  refine VCalls.of (fn := f41) (N := 4) func41 rfl rfl (fun w0 => ?_)
  by_cases c1 : a0 = true
  · replace h := ip c1 h
    cases h
    exact rt func41 [.b true, .fin] (o1 c1 on)
  · replace h := iq c1 h
    cases h
    exact rt func41 [.b false, .fin] (o1 (eqf c1) on)

/-! ### impl_YardNums: function 10 -/
def impl_YardNums.h0T (v6 : Int) (a0 : S48) (v5 : List Int) : List (Nat × AV) := [(1, .ptr 64 0), (3, .ptr 192 0), (4, .t (.c (.h 1472))), (5, .t (.c (.p true (iI v6))))]
def impl_YardNums.h0H (v6 : Int) (a0 : S48) (v5 : List Int) : List (Nat × Content) := [(64, .box 48 [.p false (iI a0.f0.f0.f0), .p false (iI a0.f0.f0.f1), .p false (.sc (.string a0.f0.f0.f2)), .p false (iI a0.f0.f1), .p false (iI a0.f0.f2), .p false (iI a0.f0.f3), .p false (iI a0.f0.f4), .p false (R 4 e69 z69 a0.f1), .p false (iI a0.f2.f0), .p false (iI a0.f2.f1), .p false (R 1 (eI .i64) 0 a0.f2.f2), .p false (iI a0.f3), .p false (.sc (.bool a0.f4)), .p false (iI a0.f5.f0), .p false (iI a0.f5.f1), .p false (R 1 e72 z72 a0.f5.f2), .p false (R 3 e74 z74 a0.f6), .p false (R 1 (eI .i64) 0 a0.f7)]), (192, .box 40 [.p false (iI a0.f0.f0.f0), .p false (iI a0.f0.f0.f1), .p false (.sc (.string a0.f0.f0.f2)), .p false (iI a0.f0.f1), .p false (iI a0.f0.f2), .p false (iI a0.f0.f3), .p false (iI a0.f0.f4)]), (1472, .row 3 1 v5.length (fun j => (eI .i64) (v5.getD j 0)) true)]
def impl_YardNums.x0T (a0 : S48) (y7 : (List Int)) : List (Nat × AV) := [(1, .ptr 64 0), (3, .ptr 192 0), (4, .t (.c (.h 1472)))]
def impl_YardNums.x0H (a0 : S48) (y7 : (List Int)) : List (Nat × Content) := [(64, .box 48 [.p false (iI a0.f0.f0.f0), .p false (iI a0.f0.f0.f1), .p false (.sc (.string a0.f0.f0.f2)), .p false (iI a0.f0.f1), .p false (iI a0.f0.f2), .p false (iI a0.f0.f3), .p false (iI a0.f0.f4), .p false (R 4 e69 z69 a0.f1), .p false (iI a0.f2.f0), .p false (iI a0.f2.f1), .p false (R 1 (eI .i64) 0 a0.f2.f2), .p false (iI a0.f3), .p false (.sc (.bool a0.f4)), .p false (iI a0.f5.f0), .p false (iI a0.f5.f1), .p false (R 1 e72 z72 a0.f5.f2), .p false (R 3 e74 z74 a0.f6), .p false (R 1 (eI .i64) 0 a0.f7)]), (192, .box 40 [.p false (iI a0.f0.f0.f0), .p false (iI a0.f0.f0.f1), .p false (.sc (.string a0.f0.f0.f2)), .p false (iI a0.f0.f1), .p false (iI a0.f0.f2), .p false (iI a0.f0.f3), .p false (iI a0.f0.f4)]), (1472, .row 3 1 y7.length (fun j => (eI .i64) (y7.getD j 0)) true)]
def impl_YardNums.l0 : Nat → S48 → List Int → Int → Option (List Int)
  | 0, _, _, _ => none
  | kq + 1, a0, v5, v6 => if v6 < (a0.f0.f0.f2.size : Int) then (if 0 ≤ v6 then (if (v5.length + 1) * 8 ≤ 140737488355328 then (impl_YardNums.l0 kq a0 (v5 ++ [(w64 (bt a0.f0.f0.f2 v6))]) (w64 (v6 + 1))) else none) else none) else (some v5)
def impl_YardNums.h1T (a0 : S48) (v15 : Int) (v14 : List Int) : List (Nat × AV) := [(1, .ptr 64 0), (4, .t (.c (.h 1472))), (56, .t (.c (.p false (R 4 e69 z69 a0.f1)))), (57, .t (.c (.p true (.sc (.int .i64 (a0.f1.length : Int)))))), (58, .t (.c (.p true (iI v15))))]
def impl_YardNums.h1H (a0 : S48) (v15 : Int) (v14 : List Int) : List (Nat × Content) := [(64, .box 48 [.p false (iI a0.f0.f0.f0), .p false (iI a0.f0.f0.f1), .p false (.sc (.string a0.f0.f0.f2)), .p false (iI a0.f0.f1), .p false (iI a0.f0.f2), .p false (iI a0.f0.f3), .p false (iI a0.f0.f4), .p false (R 4 e69 z69 a0.f1), .p false (iI a0.f2.f0), .p false (iI a0.f2.f1), .p false (R 1 (eI .i64) 0 a0.f2.f2), .p false (iI a0.f3), .p false (.sc (.bool a0.f4)), .p false (iI a0.f5.f0), .p false (iI a0.f5.f1), .p false (R 1 e72 z72 a0.f5.f2), .p false (R 3 e74 z74 a0.f6), .p false (R 1 (eI .i64) 0 a0.f7)]), (1472, .row 3 1 v14.length (fun j => (eI .i64) (v14.getD j 0)) true)]
def impl_YardNums.x1T (a0 : S48) (y17 : (List Int)) : List (Nat × AV) := [(1, .ptr 64 0), (4, .t (.c (.h 1472)))]
def impl_YardNums.x1H (a0 : S48) (y17 : (List Int)) : List (Nat × Content) := [(64, .box 48 [.p false (iI a0.f0.f0.f0), .p false (iI a0.f0.f0.f1), .p false (.sc (.string a0.f0.f0.f2)), .p false (iI a0.f0.f1), .p false (iI a0.f0.f2), .p false (iI a0.f0.f3), .p false (iI a0.f0.f4), .p false (R 4 e69 z69 a0.f1), .p false (iI a0.f2.f0), .p false (iI a0.f2.f1), .p false (R 1 (eI .i64) 0 a0.f2.f2), .p false (iI a0.f3), .p false (.sc (.bool a0.f4)), .p false (iI a0.f5.f0), .p false (iI a0.f5.f1), .p false (R 1 e72 z72 a0.f5.f2), .p false (R 3 e74 z74 a0.f6), .p false (R 1 (eI .i64) 0 a0.f7)]), (1472, .row 3 1 y17.length (fun j => (eI .i64) (y17.getD j 0)) true)]
def impl_YardNums.l1 : Nat → S48 → List Int → Int → Option (List Int)
  | 0, _, _, _ => none
  | kq + 1, a0, v14, v15 => if v15 < (a0.f1.length : Int) then (if 0 ≤ v15 then ((impl_flag.f ((rdD z69 a0.f1 v15).f3)).bind fun t16 => if (v14.length + 4) * 8 ≤ 140737488355328 then (impl_YardNums.l1 kq a0 (v14 ++ [(rdD z69 a0.f1 v15).f0, (rdD z69 a0.f1 v15).f1, (rdD z69 a0.f1 v15).f2, t16]) (w64 (v15 + 1))) else none) else none) else (some v14)
def impl_YardNums.h2T (a0 : S48) (v23 : Int) (v22 : List Int) : List (Nat × AV) := [(1, .ptr 64 0), (4, .t (.c (.h 1472))), (99, .t (.c (.p false (R 1 e72 z72 a0.f5.f2)))), (100, .t (.c (.p true (.sc (.int .i64 (a0.f5.f2.length : Int)))))), (101, .t (.c (.p true (iI v23))))]
def impl_YardNums.h2H (a0 : S48) (v23 : Int) (v22 : List Int) : List (Nat × Content) := [(64, .box 48 [.p false (iI a0.f0.f0.f0), .p false (iI a0.f0.f0.f1), .p false (.sc (.string a0.f0.f0.f2)), .p false (iI a0.f0.f1), .p false (iI a0.f0.f2), .p false (iI a0.f0.f3), .p false (iI a0.f0.f4), .p false (R 4 e69 z69 a0.f1), .p false (iI a0.f2.f0), .p false (iI a0.f2.f1), .p false (R 1 (eI .i64) 0 a0.f2.f2), .p false (iI a0.f3), .p false (.sc (.bool a0.f4)), .p false (iI a0.f5.f0), .p false (iI a0.f5.f1), .p false (R 1 e72 z72 a0.f5.f2), .p false (R 3 e74 z74 a0.f6), .p false (R 1 (eI .i64) 0 a0.f7)]), (1472, .row 3 1 v22.length (fun j => (eI .i64) (v22.getD j 0)) true)]
def impl_YardNums.x2T (a0 : S48) (y24 : (List Int)) : List (Nat × AV) := [(1, .ptr 64 0), (4, .t (.c (.h 1472)))]
def impl_YardNums.x2H (a0 : S48) (y24 : (List Int)) : List (Nat × Content) := [(64, .box 48 [.p false (iI a0.f0.f0.f0), .p false (iI a0.f0.f0.f1), .p false (.sc (.string a0.f0.f0.f2)), .p false (iI a0.f0.f1), .p false (iI a0.f0.f2), .p false (iI a0.f0.f3), .p false (iI a0.f0.f4), .p false (R 4 e69 z69 a0.f1), .p false (iI a0.f2.f0), .p false (iI a0.f2.f1), .p false (R 1 (eI .i64) 0 a0.f2.f2), .p false (iI a0.f3), .p false (.sc (.bool a0.f4)), .p false (iI a0.f5.f0), .p false (iI a0.f5.f1), .p false (R 1 e72 z72 a0.f5.f2), .p false (R 3 e74 z74 a0.f6), .p false (R 1 (eI .i64) 0 a0.f7)]), (1472, .row 3 1 y24.length (fun j => (eI .i64) (y24.getD j 0)) true)]
def impl_YardNums.l2 : Nat → S48 → List Int → Int → Option (List Int)
  | 0, _, _, _ => none
  | kq + 1, a0, v22, v23 => if v23 < (a0.f5.f2.length : Int) then (if 0 ≤ v23 then (if (v22.length + ((rdD z72 a0.f5.f2 v23).f0).length) * 8 ≤ 140737488355328 then (impl_YardNums.l2 kq a0 (v22 ++ (rdD z72 a0.f5.f2 v23).f0) (w64 (v23 + 1))) else none) else none) else (some v22)
def impl_YardNums.h3T (a0 : S48) (v29 : Int) (v28 : List Int) : List (Nat × AV) := [(1, .ptr 64 0), (4, .t (.c (.h 1472))), (111, .t (.c (.p false (R 3 e74 z74 a0.f6)))), (112, .t (.c (.p true (.sc (.int .i64 (a0.f6.length : Int)))))), (113, .t (.c (.p true (iI v29))))]
def impl_YardNums.h3H (a0 : S48) (v29 : Int) (v28 : List Int) : List (Nat × Content) := [(64, .box 48 [.p false (iI a0.f0.f0.f0), .p false (iI a0.f0.f0.f1), .p false (.sc (.string a0.f0.f0.f2)), .p false (iI a0.f0.f1), .p false (iI a0.f0.f2), .p false (iI a0.f0.f3), .p false (iI a0.f0.f4), .p false (R 4 e69 z69 a0.f1), .p false (iI a0.f2.f0), .p false (iI a0.f2.f1), .p false (R 1 (eI .i64) 0 a0.f2.f2), .p false (iI a0.f3), .p false (.sc (.bool a0.f4)), .p false (iI a0.f5.f0), .p false (iI a0.f5.f1), .p false (R 1 e72 z72 a0.f5.f2), .p false (R 3 e74 z74 a0.f6), .p false (R 1 (eI .i64) 0 a0.f7)]), (1472, .row 3 1 v28.length (fun j => (eI .i64) (v28.getD j 0)) true)]
def impl_YardNums.l3 : Nat → S48 → List Int → Int → Option (List Int)
  | 0, _, _, _ => none
  | kq + 1, a0, v28, v29 => if v29 < (a0.f6.length : Int) then (if 0 ≤ v29 then ((impl_flag.f ((rdD z74 a0.f6 v29).f2)).bind fun t30 => if (v28.length + 3) * 8 ≤ 140737488355328 then (impl_YardNums.l3 kq a0 (v28 ++ [(rdD z74 a0.f6 v29).f0, (rdD z74 a0.f6 v29).f1, t30]) (w64 (v29 + 1))) else none) else none) else (if (v28.length + 1) * 8 ≤ 140737488355328 then (if ((v28 ++ [(a0.f7.length : Int)]).length + a0.f7.length) * 8 ≤ 140737488355328 then (some ((v28 ++ [(a0.f7.length : Int)]) ++ a0.f7)) else none) else none)
def impl_YardNums.f (k : Nat) (a0 : S48) : Option (List Int) := (impl_YardOk.f k a0).bind fun t1 => if t1 = true then ((impl_YardNums.l0 k a0 ([a0.f0.f0.f0, a0.f0.f0.f1]) 0).bind fun y7 => (if (y7.length + 5) * 8 ≤ 140737488355328 then ((impl_YardNums.l1 k a0 (y7 ++ [a0.f0.f1, a0.f0.f2, a0.f0.f3, a0.f0.f4, (a0.f1.length : Int)]) 0).bind fun y17 => (if (y17.length + a0.f2.f2.length) * 8 ≤ 140737488355328 then ((impl_flag.f a0.f4).bind fun t18 => if ((y17 ++ a0.f2.f2).length + 5) * 8 ≤ 140737488355328 then ((impl_YardNums.l2 k a0 ((y17 ++ a0.f2.f2) ++ [a0.f3, t18, a0.f5.f0, a0.f5.f1, (a0.f5.f2.length : Int)]) 0).bind fun y24 => (impl_YardNums.l3 k a0 y24 0)) else none) else none)) else none)) else (some ([] : List Int))
theorem impl_YardNums.go : Callable prog 10 := ⟨_, func10, by kernel_rfl, rfl⟩
theorem impl_YardNums.ok (k : Nat) (a0 : S48) (r : (List Int)) (h : impl_YardNums.f k a0 = some r) : VCalls prog 10 [.agg (e48 a0)] [.c (.own 3 1 r.length (fun j => (eI .i64) (r.getD j 0)))] := by
  unfold impl_YardNums.f at h
  refine VCalls.of (fn := f10) (N := 137) func10 rfl rfl (fun w0 => ?_)
  obtain ⟨t1, g1, h⟩ := bindN h
  let C1 := mkCon (impl_YardOk.ok k a0 t1 g1) impl_YardOk.go
  by_cases c2 : t1 = true
  · replace h := ip c2 h
    have H0 : ∀ (kq : Nat) (v5 : List Int) (v6 : Int) (x : (List Int)), impl_YardNums.l0 kq a0 v5 v6 = some x → AG prog 10 137 [.c (.own 3 1 r.length (fun j => (eI .i64) (r.getD j 0)))] w0 (exitStk (codeOf f10) 0) (mkFS (impl_YardNums.x0T a0 x) (impl_YardNums.x0H a0 x)) → AG prog 10 137 [.c (.own 3 1 r.length (fun j => (eI .i64) (r.getD j 0)))] w0 (headStk (codeOf f10) 0) (mkFS (impl_YardNums.h0T v6 a0 v5) (impl_YardNums.h0H v6 a0 v5)) := by
      intro kq
      induction kq with
      | zero => intro v5 v6 x h hx; cases h
      | succ kq ih =>
        intro v5 v6 x h hx
        rw [impl_YardNums.l0] at h
        by_cases c11 : v6 < (a0.f0.f0.f2.size : Int)
        · replace h := ip c11 h
          obtain ⟨c12, h⟩ := ifN h
          obtain ⟨c13, h⟩ := ifN h
          exact hd func10 [.b true, rowe 39 (eI .i64) 0 ([(w64 (bt a0.f0.f0.f2 v6))]), .aft 40, orow 1472 (eI .i64) 0 (v5 ++ [(w64 (bt a0.f0.f0.f2 v6))]), .fin] (oT c11 (o1 c12 (o1 c11 (o1 (GE.lit 1 (eI .i64) 0 [(w64 (bt a0.f0.f0.f2 v6))] (by intro x; rfl)) (o1 c13 (o1 (GE.app (e := (eI .i64)) (d := 0) v5 ([(w64 (bt a0.f0.f0.f2 v6))]) rfl (fun _ _ => CE.refl _) rfl) on)))))) (ih (v5 ++ [(w64 (bt a0.f0.f0.f2 v6))]) (w64 (v6 + 1)) _ h hx)
        · replace h := iq c11 h
          cases h
          exact st func10 [.b false, .fin] (oF c11 on) hx
    obtain ⟨y7, g59, h⟩ := bindN h
    refine hd func10 [.call C1, .b false, rowe 23 (eI .i64) 0 ([a0.f0.f0.f0, a0.f0.f0.f1]), .fin] (oc C1 (o1 (bnf c2) (o1 (GE.lit 1 (eI .i64) 0 [a0.f0.f0.f0, a0.f0.f0.f1] (by intro x; rfl)) on))) (H0 k ([a0.f0.f0.f0, a0.f0.f0.f1]) 0 _ g59 ?_)
    obtain ⟨c14, h⟩ := ifN h
    have H1 : ∀ (kq : Nat) (v14 : List Int) (v15 : Int) (x : (List Int)), impl_YardNums.l1 kq a0 v14 v15 = some x → AG prog 10 137 [.c (.own 3 1 r.length (fun j => (eI .i64) (r.getD j 0)))] w0 (exitStk (codeOf f10) 1) (mkFS (impl_YardNums.x1T a0 x) (impl_YardNums.x1H a0 x)) → AG prog 10 137 [.c (.own 3 1 r.length (fun j => (eI .i64) (r.getD j 0)))] w0 (headStk (codeOf f10) 1) (mkFS (impl_YardNums.h1T a0 v15 v14) (impl_YardNums.h1H a0 v15 v14)) := by
      intro kq
      induction kq with
      | zero => intro v14 v15 x h hx; cases h
      | succ kq ih =>
        intro v14 v15 x h hx
        rw [impl_YardNums.l1] at h
        by_cases c26 : v15 < (a0.f1.length : Int)
        · replace h := ip c26 h
          obtain ⟨c27, h⟩ := ifN h
          obtain ⟨t16, g28, h⟩ := bindN h
          let C28 := mkCon (impl_flag.ok ((rdD z69 a0.f1 v15).f3) t16 g28) impl_flag.go
          obtain ⟨c29, h⟩ := ifN h
          exact hd func10 [.b true, .call C28, rowe 72 (eI .i64) 0 ([(rdD z69 a0.f1 v15).f0, (rdD z69 a0.f1 v15).f1, (rdD z69 a0.f1 v15).f2, t16]), .aft 73, orow 1472 (eI .i64) 0 (v14 ++ [(rdD z69 a0.f1 v15).f0, (rdD z69 a0.f1 v15).f1, (rdD z69 a0.f1 v15).f2, t16]), .fin] (oT c26 (o1 c27 (o1 c26 (oc C28 (o1 (GE.lit 1 (eI .i64) 0 [(rdD z69 a0.f1 v15).f0, (rdD z69 a0.f1 v15).f1, (rdD z69 a0.f1 v15).f2, t16] (by intro x; rfl)) (o1 c29 (o1 (GE.app (e := (eI .i64)) (d := 0) v14 ([(rdD z69 a0.f1 v15).f0, (rdD z69 a0.f1 v15).f1, (rdD z69 a0.f1 v15).f2, t16]) rfl (fun _ _ => CE.refl _) rfl) on))))))) (ih (v14 ++ [(rdD z69 a0.f1 v15).f0, (rdD z69 a0.f1 v15).f1, (rdD z69 a0.f1 v15).f2, t16]) (w64 (v15 + 1)) _ h hx)
        · replace h := iq c26 h
          cases h
          exact st func10 [.b false, .fin] (oF c26 on) hx
    obtain ⟨y17, g58, h⟩ := bindN h
    refine hd func10 [rowe 53 (eI .i64) 0 ([a0.f0.f1, a0.f0.f2, a0.f0.f3, a0.f0.f4, (a0.f1.length : Int)]), .aft 54, orow 1472 (eI .i64) 0 (y7 ++ [a0.f0.f1, a0.f0.f2, a0.f0.f3, a0.f0.f4, (a0.f1.length : Int)]), .fin] (o1 (GE.lit 1 (eI .i64) 0 [a0.f0.f1, a0.f0.f2, a0.f0.f3, a0.f0.f4, (a0.f1.length : Int)] (by intro x; rfl)) (o1 c14 (o1 (GE.app (e := (eI .i64)) (d := 0) y7 ([a0.f0.f1, a0.f0.f2, a0.f0.f3, a0.f0.f4, (a0.f1.length : Int)]) rfl (fun _ _ => CE.refl _) rfl) on))) (H1 k (y7 ++ [a0.f0.f1, a0.f0.f2, a0.f0.f3, a0.f0.f4, (a0.f1.length : Int)]) 0 _ g58 ?_)
    obtain ⟨c30, h⟩ := ifN h
    obtain ⟨t18, g31, h⟩ := bindN h
    let C31 := mkCon (impl_flag.ok a0.f4 t18 g31) impl_flag.go
    obtain ⟨c32, h⟩ := ifN h
    have H2 : ∀ (kq : Nat) (v22 : List Int) (v23 : Int) (x : (List Int)), impl_YardNums.l2 kq a0 v22 v23 = some x → AG prog 10 137 [.c (.own 3 1 r.length (fun j => (eI .i64) (r.getD j 0)))] w0 (exitStk (codeOf f10) 2) (mkFS (impl_YardNums.x2T a0 x) (impl_YardNums.x2H a0 x)) → AG prog 10 137 [.c (.own 3 1 r.length (fun j => (eI .i64) (r.getD j 0)))] w0 (headStk (codeOf f10) 2) (mkFS (impl_YardNums.h2T a0 v23 v22) (impl_YardNums.h2H a0 v23 v22)) := by
      intro kq
      induction kq with
      | zero => intro v22 v23 x h hx; cases h
      | succ kq ih =>
        intro v22 v23 x h hx
        rw [impl_YardNums.l2] at h
        by_cases c41 : v23 < (a0.f5.f2.length : Int)
        · replace h := ip c41 h
          obtain ⟨c42, h⟩ := ifN h
          obtain ⟨c43, h⟩ := ifN h
          exact hd func10 [.b true, .aft 108, orow 1472 (eI .i64) 0 (v22 ++ (rdD z72 a0.f5.f2 v23).f0), .reg 20, .flat 1472, .fin] (oT c41 (o1 c42 (o1 c41 (o1 c43 (o1 (GE.app (e := (eI .i64)) (d := 0) v22 ((rdD z72 a0.f5.f2 v23).f0) rfl (fun _ _ => CE.refl _) rfl) (o1 (SC.of (e := (eI .i64)) (d := 0) (v22 ++ (rdD z72 a0.f5.f2 v23).f0) (by intro x; rfl)) on)))))) (ih (v22 ++ (rdD z72 a0.f5.f2 v23).f0) (w64 (v23 + 1)) _ h hx)
        · replace h := iq c41 h
          cases h
          exact st func10 [.b false, .fin] (oF c41 on) hx
    obtain ⟨y24, g57, h⟩ := bindN h
    refine hd func10 [.aft 79, orow 1472 (eI .i64) 0 (y17 ++ a0.f2.f2), .call C31, rowe 95 (eI .i64) 0 ([a0.f3, t18, a0.f5.f0, a0.f5.f1, (a0.f5.f2.length : Int)]), .aft 96, orow 1472 (eI .i64) 0 ((y17 ++ a0.f2.f2) ++ [a0.f3, t18, a0.f5.f0, a0.f5.f1, (a0.f5.f2.length : Int)]), .reg 16, .flat 1472, .fin] (o1 c30 (o1 (GE.app (e := (eI .i64)) (d := 0) y17 a0.f2.f2 rfl (fun _ _ => CE.refl _) rfl) (oc C31 (o1 (GE.lit 1 (eI .i64) 0 [a0.f3, t18, a0.f5.f0, a0.f5.f1, (a0.f5.f2.length : Int)] (by intro x; rfl)) (o1 c32 (o1 (GE.app (e := (eI .i64)) (d := 0) (y17 ++ a0.f2.f2) ([a0.f3, t18, a0.f5.f0, a0.f5.f1, (a0.f5.f2.length : Int)]) rfl (fun _ _ => CE.refl _) rfl) (o1 (SC.of (e := (eI .i64)) (d := 0) ((y17 ++ a0.f2.f2) ++ [a0.f3, t18, a0.f5.f0, a0.f5.f1, (a0.f5.f2.length : Int)]) (by intro x; rfl)) on))))))) (H2 k ((y17 ++ a0.f2.f2) ++ [a0.f3, t18, a0.f5.f0, a0.f5.f1, (a0.f5.f2.length : Int)]) 0 _ g57 ?_)
    have H3 : ∀ (kq : Nat) (v28 : List Int) (v29 : Int), impl_YardNums.l3 kq a0 v28 v29 = some r → AG prog 10 137 [.c (.own 3 1 r.length (fun j => (eI .i64) (r.getD j 0)))] w0 (headStk (codeOf f10) 3) (mkFS (impl_YardNums.h3T a0 v29 v28) (impl_YardNums.h3H a0 v29 v28)) := by
      intro kq
      induction kq with
      | zero => intro v28 v29 h; cases h
      | succ kq ih =>
        intro v28 v29 h
        rw [impl_YardNums.l3] at h
        by_cases c51 : v29 < (a0.f6.length : Int)
        · replace h := ip c51 h
          obtain ⟨c52, h⟩ := ifN h
          obtain ⟨t30, g53, h⟩ := bindN h
          let C53 := mkCon (impl_flag.ok ((rdD z74 a0.f6 v29).f2) t30 g53) impl_flag.go
          obtain ⟨c54, h⟩ := ifN h
          exact hd func10 [.b true, .call C53, rowe 125 (eI .i64) 0 ([(rdD z74 a0.f6 v29).f0, (rdD z74 a0.f6 v29).f1, t30]), .aft 126, orow 1472 (eI .i64) 0 (v28 ++ [(rdD z74 a0.f6 v29).f0, (rdD z74 a0.f6 v29).f1, t30]), .fin] (oT c51 (o1 c52 (o1 c51 (oc C53 (o1 (GE.lit 1 (eI .i64) 0 [(rdD z74 a0.f6 v29).f0, (rdD z74 a0.f6 v29).f1, t30] (by intro x; rfl)) (o1 c54 (o1 (GE.app (e := (eI .i64)) (d := 0) v28 ([(rdD z74 a0.f6 v29).f0, (rdD z74 a0.f6 v29).f1, t30]) rfl (fun _ _ => CE.refl _) rfl) on))))))) (ih (v28 ++ [(rdD z74 a0.f6 v29).f0, (rdD z74 a0.f6 v29).f1, t30]) (w64 (v29 + 1)) h)
        · replace h := iq c51 h
          obtain ⟨c55, h⟩ := ifN h
          obtain ⟨c56, h⟩ := ifN h
          cases h
          exact rt func10 [.b false, .fin, rowe 132 (eI .i64) 0 ([(a0.f7.length : Int)]), .aft 133, orow 1472 (eI .i64) 0 (v28 ++ [(a0.f7.length : Int)]), .aft 136, orow 1472 (eI .i64) 0 ((v28 ++ [(a0.f7.length : Int)]) ++ a0.f7), .fin, .flat 1472] (oF c51 (o1 (GE.lit 1 (eI .i64) 0 [(a0.f7.length : Int)] (by intro x; rfl)) (o1 c55 (o1 (GE.app (e := (eI .i64)) (d := 0) v28 ([(a0.f7.length : Int)]) rfl (fun _ _ => CE.refl _) rfl) (o1 c56 (o1 (GE.app (e := (eI .i64)) (d := 0) (v28 ++ [(a0.f7.length : Int)]) a0.f7 rfl (fun _ _ => CE.refl _) rfl) (o1 (SC.of (e := (eI .i64)) (d := 0) ((v28 ++ [(a0.f7.length : Int)]) ++ a0.f7) (by intro x; rfl)) on)))))))
    exact hd func10 [.fin] on (H3 k y24 0 h)
  · replace h := iq c2 h
    cases h
    exact rt func10 [.call C1, .b true, .fin, .nil 2 384128 3 1, orow 384128 (eI .i64) 0 ([] : List Int)] (oc C1 (oN c2 (o1 (GE.nil (eI .i64) 0) on)))

/-! ### laws_eqIntS: function 11 -/
def laws_eqIntS.h0T (a0 : List Int) (a1 : List Int) (v1 : Int) : List (Nat × AV) := [(0, .t (.c (.p false (R 1 (eI .i64) 0 a0)))), (1, .t (.c (.p false (R 1 (eI .i64) 0 a1)))), (5, .t (.c (.p true (iI v1))))]
def laws_eqIntS.h0H (a0 : List Int) (a1 : List Int) (v1 : Int) : List (Nat × Content) := []
def laws_eqIntS.l0 : Nat → List Int → List Int → Int → Option Bool
  | 0, _, _, _ => none
  | kq + 1, a0, a1, v1 => if v1 < (a0.length : Int) then (if 0 ≤ v1 then (if v1 < (a1.length : Int) then (if (rdD 0 a0 v1) = (rdD 0 a1 v1) then (laws_eqIntS.l0 kq a0 a1 (w64 (v1 + 1))) else (some false)) else none) else none) else (some true)
def laws_eqIntS.f (k : Nat) (a0 : List Int) (a1 : List Int) : Option Bool := if (a0.length : Int) = (a1.length : Int) then (laws_eqIntS.l0 k a0 a1 0) else (some false)
theorem laws_eqIntS.go : Callable prog 11 := ⟨_, func11, by kernel_rfl, rfl⟩
theorem laws_eqIntS.ok (k : Nat) (a0 : List Int) (a1 : List Int) (r : Bool) (h : laws_eqIntS.f k a0 a1 = some r) : VCalls prog 11 [.c (R 1 (eI .i64) 0 a0), .c (R 1 (eI .i64) 0 a1)] [.c (.p (.sc (.bool r)))] := by
  unfold laws_eqIntS.f at h
  refine VCalls.of (fn := f11) (N := 26) func11 rfl rfl (fun w0 => ?_)
  by_cases c1 : (a0.length : Int) = (a1.length : Int)
  · replace h := ip c1 h
    have H0 : ∀ (kq : Nat) (v1 : Int), laws_eqIntS.l0 kq a0 a1 v1 = some r → AG prog 11 26 [.c (.p (.sc (.bool r)))] w0 (headStk (codeOf f11) 0) (mkFS (laws_eqIntS.h0T a0 a1 v1) (laws_eqIntS.h0H a0 a1 v1)) := by
      intro kq
      induction kq with
      | zero => intro v1 h; cases h
      | succ kq ih =>
        intro v1 h
        rw [laws_eqIntS.l0] at h
        by_cases c5 : v1 < (a0.length : Int)
        · replace h := ip c5 h
          obtain ⟨c6, h⟩ := ifN h
          obtain ⟨c7, h⟩ := ifN h
          by_cases c8 : (rdD 0 a0 v1) = (rdD 0 a1 v1)
          · replace h := ip c8 h
            exact hd func11 [.b true, .b false, .fin] (oT c5 (o1 c6 (o1 c5 (o1 c6 (o1 c7 (o1 (bnf (decide_eq_true c8)) on)))))) (ih (w64 (v1 + 1)) h)
          · replace h := iq c8 h
            cases h
            exact rt func11 [.b true, .b true, .fin] (oT c5 (o1 c6 (o1 c5 (o1 c6 (o1 c7 (o1 (bnt (decide_eq_false c8)) on))))))
        · replace h := iq c5 h
          cases h
          exact rt func11 [.b false, .fin, .fin] (oF c5 on)
    exact hd func11 [.b false, .fin] (o1 (bnf (decide_eq_true c1)) on) (H0 k 0 h)
  · replace h := iq c1 h
    cases h
    exact rt func11 [.b true, .fin] (o1 (bnt (decide_eq_false c1)) on)

/-! ### laws_eqGrid: function 106 -/
def laws_eqGrid.f (a0 : S38) (a1 : S38) : Option Bool := if a0.f0 = a1.f0 then (if a0.f1 = a1.f1 then (if (a0.f2.toList == a1.f2.toList) = true then (some true) else (some false)) else (some false)) else (some false)
theorem laws_eqGrid.go : Callable prog 106 := ⟨_, func106, by kernel_rfl, rfl⟩
theorem laws_eqGrid.ok (a0 : S38) (a1 : S38) (r : Bool) (h : laws_eqGrid.f a0 a1 = some r) : VCalls prog 106 [.agg (e38 a0), .agg (e38 a1)] [.c (.p (.sc (.bool r)))] := by
  unfold laws_eqGrid.f at h
  refine VCalls.of (fn := f106) (N := 20) func106 rfl rfl (fun w0 => ?_)
  by_cases c1 : a0.f0 = a1.f0
  · replace h := ip c1 h
    by_cases c2 : a0.f1 = a1.f1
    · replace h := ip c2 h
      by_cases c3 : (a0.f2.toList == a1.f2.toList) = true
      · replace h := ip c3 h
        cases h
        exact rt func106 [.b false, .b false, .b false, .fin] (o1 (bnf (decide_eq_true c1)) (o1 (bnf (decide_eq_true c2)) (o1 (bnf c3) on)))
      · replace h := iq c3 h
        cases h
        exact rt func106 [.b false, .b false, .b true, .fin] (o1 (bnf (decide_eq_true c1)) (o1 (bnf (decide_eq_true c2)) (oN c3 on)))
    · replace h := iq c2 h
      cases h
      exact rt func106 [.b false, .b true, .fin] (o1 (bnf (decide_eq_true c1)) (o1 (bnt (decide_eq_false c2)) on))
  · replace h := iq c1 h
    cases h
    exact rt func106 [.b true, .fin] (o1 (bnt (decide_eq_false c1)) on)

/-! ### laws_eqSetup: function 42 -/
def laws_eqSetup.f (a0 : S40) (a1 : S40) : Option Bool := (laws_eqGrid.f a0.f0 a1.f0).bind fun t1 => if t1 = true then (if a0.f1 = a1.f1 then (if a0.f2 = a1.f2 then (if a0.f3 = a1.f3 then (if a0.f4 = a1.f4 then (some true) else (some false)) else (some false)) else (some false)) else (some false)) else (some false)
theorem laws_eqSetup.go : Callable prog 42 := ⟨_, func42, by kernel_rfl, rfl⟩
theorem laws_eqSetup.ok (a0 : S40) (a1 : S40) (r : Bool) (h : laws_eqSetup.f a0 a1 = some r) : VCalls prog 42 [.agg (e40 a0), .agg (e40 a1)] [.c (.p (.sc (.bool r)))] := by
  unfold laws_eqSetup.f at h
  refine VCalls.of (fn := f42) (N := 31) func42 rfl rfl (fun w0 => ?_)
  obtain ⟨t1, g1, h⟩ := bindN h
  let C1 := mkCon (laws_eqGrid.ok a0.f0 a1.f0 t1 g1) laws_eqGrid.go
  by_cases c2 : t1 = true
  · replace h := ip c2 h
    by_cases c3 : a0.f1 = a1.f1
    · replace h := ip c3 h
      by_cases c4 : a0.f2 = a1.f2
      · replace h := ip c4 h
        by_cases c5 : a0.f3 = a1.f3
        · replace h := ip c5 h
          by_cases c6 : a0.f4 = a1.f4
          · replace h := ip c6 h
            cases h
            exact rt func42 [.call C1, .b false, .b false, .b false, .b false, .b false, .fin] (oc C1 (o1 (bnf c2) (o1 (bnf (decide_eq_true c3)) (o1 (bnf (decide_eq_true c4)) (o1 (bnf (decide_eq_true c5)) (o1 (bnf (decide_eq_true c6)) on))))))
          · replace h := iq c6 h
            cases h
            exact rt func42 [.call C1, .b false, .b false, .b false, .b false, .b true, .fin] (oc C1 (o1 (bnf c2) (o1 (bnf (decide_eq_true c3)) (o1 (bnf (decide_eq_true c4)) (o1 (bnf (decide_eq_true c5)) (o1 (bnt (decide_eq_false c6)) on))))))
        · replace h := iq c5 h
          cases h
          exact rt func42 [.call C1, .b false, .b false, .b false, .b true, .fin] (oc C1 (o1 (bnf c2) (o1 (bnf (decide_eq_true c3)) (o1 (bnf (decide_eq_true c4)) (o1 (bnt (decide_eq_false c5)) on)))))
      · replace h := iq c4 h
        cases h
        exact rt func42 [.call C1, .b false, .b false, .b true, .fin] (oc C1 (o1 (bnf c2) (o1 (bnf (decide_eq_true c3)) (o1 (bnt (decide_eq_false c4)) on))))
    · replace h := iq c3 h
      cases h
      exact rt func42 [.call C1, .b false, .b true, .fin] (oc C1 (o1 (bnf c2) (o1 (bnt (decide_eq_false c3)) on)))
  · replace h := iq c2 h
    cases h
    exact rt func42 [.call C1, .b true, .fin] (oc C1 (oN c2 on))

/-! ### laws_eqRobot: function 107 -/
def laws_eqRobot.f (a0 : S69) (a1 : S69) : Option Bool := if a0.f0 = a1.f0 then (if a0.f1 = a1.f1 then (if a0.f2 = a1.f2 then (if (a0.f3 == a1.f3) = true then (some true) else (some false)) else (some false)) else (some false)) else (some false)
theorem laws_eqRobot.go : Callable prog 107 := ⟨_, func107, by kernel_rfl, rfl⟩
theorem laws_eqRobot.ok (a0 : S69) (a1 : S69) (r : Bool) (h : laws_eqRobot.f a0 a1 = some r) : VCalls prog 107 [.agg (e69 a0), .agg (e69 a1)] [.c (.p (.sc (.bool r)))] := by
  unfold laws_eqRobot.f at h
  refine VCalls.of (fn := f107) (N := 25) func107 rfl rfl (fun w0 => ?_)
  by_cases c1 : a0.f0 = a1.f0
  · replace h := ip c1 h
    by_cases c2 : a0.f1 = a1.f1
    · replace h := ip c2 h
      by_cases c3 : a0.f2 = a1.f2
      · replace h := ip c3 h
        by_cases c4 : (a0.f3 == a1.f3) = true
        · replace h := ip c4 h
          cases h
          exact rt func107 [.b false, .b false, .b false, .b false, .fin] (o1 (bnf (decide_eq_true c1)) (o1 (bnf (decide_eq_true c2)) (o1 (bnf (decide_eq_true c3)) (o1 (bnf c4) on))))
        · replace h := iq c4 h
          cases h
          exact rt func107 [.b false, .b false, .b false, .b true, .fin] (o1 (bnf (decide_eq_true c1)) (o1 (bnf (decide_eq_true c2)) (o1 (bnf (decide_eq_true c3)) (oN c4 on))))
      · replace h := iq c3 h
        cases h
        exact rt func107 [.b false, .b false, .b true, .fin] (o1 (bnf (decide_eq_true c1)) (o1 (bnf (decide_eq_true c2)) (o1 (bnt (decide_eq_false c3)) on)))
    · replace h := iq c2 h
      cases h
      exact rt func107 [.b false, .b true, .fin] (o1 (bnf (decide_eq_true c1)) (o1 (bnt (decide_eq_false c2)) on))
  · replace h := iq c1 h
    cases h
    exact rt func107 [.b true, .fin] (o1 (bnt (decide_eq_false c1)) on)

/-! ### laws_eqRobotS: function 43 -/
def laws_eqRobotS.h0T (a0 : List S69) (a1 : List S69) (v2 : Int) : List (Nat × AV) := [(0, .t (.c (.p false (R 4 e69 z69 a0)))), (1, .t (.c (.p false (R 4 e69 z69 a1)))), (5, .t (.c (.p true (iI v2))))]
def laws_eqRobotS.h0H (a0 : List S69) (a1 : List S69) (v2 : Int) : List (Nat × Content) := []
def laws_eqRobotS.l0 : Nat → List S69 → List S69 → Int → Option Bool
  | 0, _, _, _ => none
  | kq + 1, a0, a1, v2 => if v2 < (a0.length : Int) then (if 0 ≤ v2 then (if v2 < (a1.length : Int) then ((laws_eqRobot.f (rdD z69 a0 v2) (rdD z69 a1 v2)).bind fun t3 => if t3 = true then (laws_eqRobotS.l0 kq a0 a1 (w64 (v2 + 1))) else (some false)) else none) else none) else (some true)
def laws_eqRobotS.f (k : Nat) (a0 : List S69) (a1 : List S69) : Option Bool := if (a0.length : Int) = (a1.length : Int) then (laws_eqRobotS.l0 k a0 a1 0) else (some false)
theorem laws_eqRobotS.go : Callable prog 43 := ⟨_, func43, by kernel_rfl, rfl⟩
theorem laws_eqRobotS.ok (k : Nat) (a0 : List S69) (a1 : List S69) (r : Bool) (h : laws_eqRobotS.f k a0 a1 = some r) : VCalls prog 43 [.c (R 4 e69 z69 a0), .c (R 4 e69 z69 a1)] [.c (.p (.sc (.bool r)))] := by
  unfold laws_eqRobotS.f at h
  refine VCalls.of (fn := f43) (N := 27) func43 rfl rfl (fun w0 => ?_)
  by_cases c1 : (a0.length : Int) = (a1.length : Int)
  · replace h := ip c1 h
    have H0 : ∀ (kq : Nat) (v2 : Int), laws_eqRobotS.l0 kq a0 a1 v2 = some r → AG prog 43 27 [.c (.p (.sc (.bool r)))] w0 (headStk (codeOf f43) 0) (mkFS (laws_eqRobotS.h0T a0 a1 v2) (laws_eqRobotS.h0H a0 a1 v2)) := by
      intro kq
      induction kq with
      | zero => intro v2 h; cases h
      | succ kq ih =>
        intro v2 h
        rw [laws_eqRobotS.l0] at h
        by_cases c6 : v2 < (a0.length : Int)
        · replace h := ip c6 h
          obtain ⟨c7, h⟩ := ifN h
          obtain ⟨c8, h⟩ := ifN h
          obtain ⟨t3, g9, h⟩ := bindN h
          let C9 := mkCon (laws_eqRobot.ok (rdD z69 a0 v2) (rdD z69 a1 v2) t3 g9) laws_eqRobot.go
          by_cases c10 : t3 = true
          · replace h := ip c10 h
            exact hd func43 [.b true, .call C9, .b false, .fin] (oT c6 (o1 c7 (o1 c6 (o1 c7 (o1 c8 (oc C9 (o1 (bnf c10) on))))))) (ih (w64 (v2 + 1)) h)
          · replace h := iq c10 h
            cases h
            exact rt func43 [.b true, .call C9, .b true, .fin] (oT c6 (o1 c7 (o1 c6 (o1 c7 (o1 c8 (oc C9 (oN c10 on)))))))
        · replace h := iq c6 h
          cases h
          exact rt func43 [.b false, .fin, .fin] (oF c6 on)
    exact hd func43 [.b false, .fin] (o1 (bnf (decide_eq_true c1)) on) (H0 k 0 h)
  · replace h := iq c1 h
    cases h
    exact rt func43 [.b true, .fin] (o1 (bnt (decide_eq_false c1)) on)

/-! ### laws_eqWindow: function 44 -/
def laws_eqWindow.f (k : Nat) (a0 : S42) (a1 : S42) : Option Bool := if a0.f0 = a1.f0 then (if a0.f1 = a1.f1 then ((laws_eqIntS.f k a0.f2 a1.f2).bind fun t1 => if t1 = true then (some true) else (some false)) else (some false)) else (some false)
theorem laws_eqWindow.go : Callable prog 44 := ⟨_, func44, by kernel_rfl, rfl⟩
theorem laws_eqWindow.ok (k : Nat) (a0 : S42) (a1 : S42) (r : Bool) (h : laws_eqWindow.f k a0 a1 = some r) : VCalls prog 44 [.agg (e42 a0), .agg (e42 a1)] [.c (.p (.sc (.bool r)))] := by
  unfold laws_eqWindow.f at h
  refine VCalls.of (fn := f44) (N := 21) func44 rfl rfl (fun w0 => ?_)
  by_cases c1 : a0.f0 = a1.f0
  · replace h := ip c1 h
    by_cases c2 : a0.f1 = a1.f1
    · replace h := ip c2 h
      obtain ⟨t1, g3, h⟩ := bindN h
      let C3 := mkCon (laws_eqIntS.ok k a0.f2 a1.f2 t1 g3) laws_eqIntS.go
      by_cases c4 : t1 = true
      · replace h := ip c4 h
        cases h
        exact rt func44 [.b false, .b false, .call C3, .b false, .fin] (o1 (bnf (decide_eq_true c1)) (o1 (bnf (decide_eq_true c2)) (oc C3 (o1 (bnf c4) on))))
      · replace h := iq c4 h
        cases h
        exact rt func44 [.b false, .b false, .call C3, .b true, .fin] (o1 (bnf (decide_eq_true c1)) (o1 (bnf (decide_eq_true c2)) (oc C3 (oN c4 on))))
    · replace h := iq c2 h
      cases h
      exact rt func44 [.b false, .b true, .fin] (o1 (bnf (decide_eq_true c1)) (o1 (bnt (decide_eq_false c2)) on))
  · replace h := iq c1 h
    cases h
    exact rt func44 [.b true, .fin] (o1 (bnt (decide_eq_false c1)) on)

/-! ### laws_eqWay: function 184 -/
def laws_eqWay.f (k : Nat) (a0 : S72) (a1 : S72) : Option Bool := (laws_eqIntS.f k a0.f0 a1.f0).bind fun t1 => if t1 = true then (some true) else (some false)
theorem laws_eqWay.go : Callable prog 184 := ⟨_, func184, by kernel_rfl, rfl⟩
theorem laws_eqWay.ok (k : Nat) (a0 : S72) (a1 : S72) (r : Bool) (h : laws_eqWay.f k a0 a1 = some r) : VCalls prog 184 [.agg (e72 a0), .agg (e72 a1)] [.c (.p (.sc (.bool r)))] := by
  unfold laws_eqWay.f at h
  refine VCalls.of (fn := f184) (N := 11) func184 rfl rfl (fun w0 => ?_)
  obtain ⟨t1, g1, h⟩ := bindN h
  let C1 := mkCon (laws_eqIntS.ok k a0.f0 a1.f0 t1 g1) laws_eqIntS.go
  by_cases c2 : t1 = true
  · replace h := ip c2 h
    cases h
    exact rt func184 [.call C1, .b false, .fin] (oc C1 (o1 (bnf c2) on))
  · replace h := iq c2 h
    cases h
    exact rt func184 [.call C1, .b true, .fin] (oc C1 (oN c2 on))

/-! ### laws_eqWayS: function 108 -/
def laws_eqWayS.h0T (a0 : List S72) (a1 : List S72) (v2 : Int) : List (Nat × AV) := [(0, .t (.c (.p false (R 1 e72 z72 a0)))), (1, .t (.c (.p false (R 1 e72 z72 a1)))), (5, .t (.c (.p true (iI v2))))]
def laws_eqWayS.h0H (a0 : List S72) (a1 : List S72) (v2 : Int) : List (Nat × Content) := []
def laws_eqWayS.l0 : Nat → List S72 → List S72 → Int → Option Bool
  | 0, _, _, _ => none
  | kq + 1, a0, a1, v2 => if v2 < (a0.length : Int) then (if 0 ≤ v2 then (if v2 < (a1.length : Int) then ((laws_eqWay.f kq (rdD z72 a0 v2) (rdD z72 a1 v2)).bind fun t3 => if t3 = true then (laws_eqWayS.l0 kq a0 a1 (w64 (v2 + 1))) else (some false)) else none) else none) else (some true)
def laws_eqWayS.f (k : Nat) (a0 : List S72) (a1 : List S72) : Option Bool := if (a0.length : Int) = (a1.length : Int) then (laws_eqWayS.l0 k a0 a1 0) else (some false)
theorem laws_eqWayS.go : Callable prog 108 := ⟨_, func108, by kernel_rfl, rfl⟩
theorem laws_eqWayS.ok (k : Nat) (a0 : List S72) (a1 : List S72) (r : Bool) (h : laws_eqWayS.f k a0 a1 = some r) : VCalls prog 108 [.c (R 1 e72 z72 a0), .c (R 1 e72 z72 a1)] [.c (.p (.sc (.bool r)))] := by
  unfold laws_eqWayS.f at h
  refine VCalls.of (fn := f108) (N := 27) func108 rfl rfl (fun w0 => ?_)
  by_cases c1 : (a0.length : Int) = (a1.length : Int)
  · replace h := ip c1 h
    have H0 : ∀ (kq : Nat) (v2 : Int), laws_eqWayS.l0 kq a0 a1 v2 = some r → AG prog 108 27 [.c (.p (.sc (.bool r)))] w0 (headStk (codeOf f108) 0) (mkFS (laws_eqWayS.h0T a0 a1 v2) (laws_eqWayS.h0H a0 a1 v2)) := by
      intro kq
      induction kq with
      | zero => intro v2 h; cases h
      | succ kq ih =>
        intro v2 h
        rw [laws_eqWayS.l0] at h
        by_cases c6 : v2 < (a0.length : Int)
        · replace h := ip c6 h
          obtain ⟨c7, h⟩ := ifN h
          obtain ⟨c8, h⟩ := ifN h
          obtain ⟨t3, g9, h⟩ := bindN h
          let C9 := mkCon (laws_eqWay.ok kq (rdD z72 a0 v2) (rdD z72 a1 v2) t3 g9) laws_eqWay.go
          by_cases c10 : t3 = true
          · replace h := ip c10 h
            exact hd func108 [.b true, .call C9, .b false, .fin] (oT c6 (o1 c7 (o1 c6 (o1 c7 (o1 c8 (oc C9 (o1 (bnf c10) on))))))) (ih (w64 (v2 + 1)) h)
          · replace h := iq c10 h
            cases h
            exact rt func108 [.b true, .call C9, .b true, .fin] (oT c6 (o1 c7 (o1 c6 (o1 c7 (o1 c8 (oc C9 (oN c10 on)))))))
        · replace h := iq c6 h
          cases h
          exact rt func108 [.b false, .fin, .fin] (oF c6 on)
    exact hd func108 [.b false, .fin] (o1 (bnf (decide_eq_true c1)) on) (H0 k 0 h)
  · replace h := iq c1 h
    cases h
    exact rt func108 [.b true, .fin] (o1 (bnt (decide_eq_false c1)) on)

/-! ### laws_eqPlan: function 45 -/
def laws_eqPlan.f (k : Nat) (a0 : S45) (a1 : S45) : Option Bool := if a0.f0 = a1.f0 then (if a0.f1 = a1.f1 then ((laws_eqWayS.f k a0.f2 a1.f2).bind fun t1 => if t1 = true then (some true) else (some false)) else (some false)) else (some false)
theorem laws_eqPlan.go : Callable prog 45 := ⟨_, func45, by kernel_rfl, rfl⟩
theorem laws_eqPlan.ok (k : Nat) (a0 : S45) (a1 : S45) (r : Bool) (h : laws_eqPlan.f k a0 a1 = some r) : VCalls prog 45 [.agg (e45 a0), .agg (e45 a1)] [.c (.p (.sc (.bool r)))] := by
  unfold laws_eqPlan.f at h
  refine VCalls.of (fn := f45) (N := 21) func45 rfl rfl (fun w0 => ?_)
  by_cases c1 : a0.f0 = a1.f0
  · replace h := ip c1 h
    by_cases c2 : a0.f1 = a1.f1
    · replace h := ip c2 h
      obtain ⟨t1, g3, h⟩ := bindN h
      let C3 := mkCon (laws_eqWayS.ok k a0.f2 a1.f2 t1 g3) laws_eqWayS.go
      by_cases c4 : t1 = true
      · replace h := ip c4 h
        cases h
        exact rt func45 [.b false, .b false, .call C3, .b false, .fin] (o1 (bnf (decide_eq_true c1)) (o1 (bnf (decide_eq_true c2)) (oc C3 (o1 (bnf c4) on))))
      · replace h := iq c4 h
        cases h
        exact rt func45 [.b false, .b false, .call C3, .b true, .fin] (o1 (bnf (decide_eq_true c1)) (o1 (bnf (decide_eq_true c2)) (oc C3 (oN c4 on))))
    · replace h := iq c2 h
      cases h
      exact rt func45 [.b false, .b true, .fin] (o1 (bnf (decide_eq_true c1)) (o1 (bnt (decide_eq_false c2)) on))
  · replace h := iq c1 h
    cases h
    exact rt func45 [.b true, .fin] (o1 (bnt (decide_eq_false c1)) on)

/-! ### laws_eqJob: function 109 -/
def laws_eqJob.f (a0 : S74) (a1 : S74) : Option Bool := if a0.f0 = a1.f0 then (if a0.f1 = a1.f1 then (if (a0.f2 == a1.f2) = true then (some true) else (some false)) else (some false)) else (some false)
theorem laws_eqJob.go : Callable prog 109 := ⟨_, func109, by kernel_rfl, rfl⟩
theorem laws_eqJob.ok (a0 : S74) (a1 : S74) (r : Bool) (h : laws_eqJob.f a0 a1 = some r) : VCalls prog 109 [.agg (e74 a0), .agg (e74 a1)] [.c (.p (.sc (.bool r)))] := by
  unfold laws_eqJob.f at h
  refine VCalls.of (fn := f109) (N := 20) func109 rfl rfl (fun w0 => ?_)
  by_cases c1 : a0.f0 = a1.f0
  · replace h := ip c1 h
    by_cases c2 : a0.f1 = a1.f1
    · replace h := ip c2 h
      by_cases c3 : (a0.f2 == a1.f2) = true
      · replace h := ip c3 h
        cases h
        exact rt func109 [.b false, .b false, .b false, .fin] (o1 (bnf (decide_eq_true c1)) (o1 (bnf (decide_eq_true c2)) (o1 (bnf c3) on)))
      · replace h := iq c3 h
        cases h
        exact rt func109 [.b false, .b false, .b true, .fin] (o1 (bnf (decide_eq_true c1)) (o1 (bnf (decide_eq_true c2)) (oN c3 on)))
    · replace h := iq c2 h
      cases h
      exact rt func109 [.b false, .b true, .fin] (o1 (bnf (decide_eq_true c1)) (o1 (bnt (decide_eq_false c2)) on))
  · replace h := iq c1 h
    cases h
    exact rt func109 [.b true, .fin] (o1 (bnt (decide_eq_false c1)) on)
end Go.Proofs.YtoaknaceaghclaaGreat.V
