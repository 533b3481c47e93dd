/- What each Go function computes, and that the machine does so: printed by a program of this session (avgen.py). -/
import Derived.Test.YtfhjipfkaemapaaGreatV2
namespace Go.Proofs.YtfhjipfkaemapaaGreat.V
open Go Go.Av Go.Proofs Go.Proofs.Tryz
set_option linter.unusedVariables false
set_option maxRecDepth 100000
def impl_areLevel.f (k : Nat) (a0 : List S53) : Option Bool := if 1 ≤ (a0.length : Int) then (if (a0.length : Int) ≤ 10 then ((slices_ContainsFunc_impl_Way_impl_Way_1.f k a0 (fun x3 => impl_areLevel_1.f x3 a0)).bind fun t1 => some (!t1)) else (some false)) else (some false)
theorem impl_areLevel.go : Callable prog 146 := ⟨_, func146, by kernel_rfl, rfl⟩
theorem impl_areLevel.ok (k : Nat) (a0 : List S53) (r : Bool) (h : impl_areLevel.f k a0 = some r) : VCalls prog 146 [.c (R 1 e53 z53 a0)] [.c (.p (.sc (.bool r)))] := by
 unfold impl_areLevel.f at h
 refine VCalls.of (fn := f146) (N := 17) func146 rfl rfl (fun w0 => ?_)
 by_cases c1 : 1 ≤ (a0.length : Int)
 ·replace h := ip c1 h
  by_cases c2 : (a0.length : Int) ≤ 10
  ·replace h := ip c2 h
   obtain ⟨t1, g4, h⟩ := bindN h
   let C4 := mkCon (slices_ContainsFunc_impl_Way_impl_Way_1.ok k a0 (fun x3 => impl_areLevel_1.f x3 a0) 152 (R 1 e53 z53 a0) (fun x3 r h => impl_areLevel_1.ok x3 a0 r h) impl_areLevel_1.go t1 g4) slices_ContainsFunc_impl_Way_impl_Way_1.go
   cases h
   exact rt func146 [.dec 6 true, .dec 11 true, .call C4, .fin] (oT c1 (oT c2 (oc C4 on)))
  ·replace h := iq c2 h
   cases h
   exact rt func146 [.dec 6 true, .dec 11 false, .fin] (oT c1 (oF c2 on))
 ·replace h := iq c1 h
  cases h
  exact rt func146 [.dec 6 false, .fin] (oF c1 on)
def impl_LevelWays.f (k : Nat) (a0 : List S53) (a1 : Int) : Option Bool := (impl_areLevel.f k a0).bind fun t1 => if t1 = true then (if 0 ≤ a1 then (if 0 < (a0.length : Int) then (some (decide (a1 < (w64 ((((rdD z53 a0 0).f0).length : Int) - 1))))) else none) else (some false)) else (some false)
theorem impl_LevelWays.go : Callable prog 129 := ⟨_, func129, by kernel_rfl, rfl⟩
theorem impl_LevelWays.ok (k : Nat) (a0 : List S53) (a1 : Int) (r : Bool) (h : impl_LevelWays.f k a0 a1 = some r) : VCalls prog 129 [.c (R 1 e53 z53 a0), .c (iI a1)] [.c (.p (.sc (.bool r)))] := by
 unfold impl_LevelWays.f at h
 refine VCalls.of (fn := f129) (N := 21) func129 rfl rfl (fun w0 => ?_)
 obtain ⟨t1, g1, h⟩ := bindN h
 let C1 := mkCon (impl_areLevel.ok k a0 t1 g1) impl_areLevel.go
 by_cases c2 : t1 = true
 ·replace h := ip c2 h
  by_cases c3 : 0 ≤ a1
  ·replace h := ip c3 h
   obtain ⟨c4, h⟩ := ifN h
   cases h
   exact rt func129 [.call C1, .dec 7 true, .dec 11 true, .fin] (oc C1 (o1 c2 (oT c3 (o1 (by decide : (0 : Int) ≤ 0) (o1 c4 on)))))
  ·replace h := iq c3 h
   cases h
   exact rt func129 [.call C1, .dec 7 true, .dec 11 false, .fin] (oc C1 (o1 c2 (oF c3 on)))
 ·replace h := iq c2 h
  cases h
  exact rt func129 [.call C1, .dec 7 false, .fin] (oc C1 (o1 (eqf c2) on))
def impl_meets.h1T (a0 : List S53) (a1 : Int) (v3 : Int) (v4 : Int) : List (Nat × AV) := [(0, .t (.c (.p false (R 1 e53 z53 a0)))), (1, .t (.c (.p false (iI a1)))), (5, .t (.c (.p true (iI v3)))), (8, .t (.c (.p true (.sc (.int .i64 (a0.length : Int)))))), (9, .t (.c (.p true (iI v3)))), (15, .t (.c (.p true (.sc (.int .i64 (((a0.drop (0 : Int).toNat).take (v3.toNat - (0 : Int).toNat)).length : Int)))))), (16, .t (.c (.p true (iI v4))))]
def impl_meets.h1H (a0 : List S53) (a1 : Int) (v3 : Int) (v4 : Int) : List (Nat × Content) := []
def impl_meets.x1T (a0 : List S53) (a1 : Int) (v3 : Int) : List (Nat × AV) := [(0, .t (.c (.p false (R 1 e53 z53 a0)))), (1, .t (.c (.p false (iI a1)))), (8, .t (.c (.p true (.sc (.int .i64 (a0.length : Int)))))), (9, .t (.c (.p true (iI v3))))]
def impl_meets.x1H (a0 : List S53) (a1 : Int) (v3 : Int) : List (Nat × Content) := []
def impl_meets.l1 : Nat → List S53 → Int → Int → Int → Option (Bool ⊕ Unit)
 | 0, _, _, _, _ => none
 | kq + 1, a0, v3, a1, v4 => if v4 < (((a0.drop (0 : Int).toNat).take (v3.toNat - (0 : Int).toNat)).length : Int) then (if 0 ≤ a1 then (if a1 < (((rdD z53 a0 v3).f0).length : Int) then (if 0 ≤ v4 then (if v4 < (a0.length : Int) then (if a1 < (((rdD z53 a0 v4).f0).length : Int) then (if (rdD 0 ((rdD z53 a0 v3).f0) a1) = (rdD 0 ((rdD z53 a0 v4).f0) a1) then (some (.inl true)) else (impl_meets.l1 kq a0 v3 a1 (w64 (v4 + 1)))) else none) else none) else none) else none) else none) else (some (.inr ()))
def impl_meets.h0T (a0 : List S53) (a1 : Int) (v3 : Int) : List (Nat × AV) := [(0, .t (.c (.p false (R 1 e53 z53 a0)))), (1, .t (.c (.p false (iI a1)))), (8, .t (.c (.p true (.sc (.int .i64 (a0.length : Int)))))), (9, .t (.c (.p true (iI v3))))]
def impl_meets.h0H (a0 : List S53) (a1 : Int) (v3 : Int) : List (Nat × Content) := []
def impl_meets.l0 : Nat → List S53 → Int → Int → Option Bool
 | 0, _, _, _ => none
 | kq + 1, a0, a1, v3 => if v3 < (a0.length : Int) then (if 0 ≤ v3 then (if v3 ≤ (a0.length : Int) then ((impl_meets.l1 kq a0 v3 a1 0).bind fun x30 => match x30 with | .inl r => some r | .inr y5 => (impl_meets.l0 kq a0 a1 (w64 (v3 + 1)))) else none) else none) else (some false)
def impl_meets.f (k : Nat) (a0 : List S53) (a1 : Int) : Option Bool := impl_meets.l0 k a0 a1 0
theorem impl_meets.go : Callable prog 130 := ⟨_, func130, by kernel_rfl, rfl⟩
theorem impl_meets.ok (k : Nat) (a0 : List S53) (a1 : Int) (r : Bool) (h : impl_meets.f k a0 a1 = some r) : VCalls prog 130 [.c (R 1 e53 z53 a0), .c (iI a1)] [.c (.p (.sc (.bool r)))] := by
 unfold impl_meets.f at h
 refine VCalls.of (fn := f130) (N := 38) func130 rfl rfl (fun w0 => ?_)
 have H0 : ∀ (kq : Nat) (v3 : Int), impl_meets.l0 kq a0 a1 v3 = some r → AG prog 130 38 [.c (.p (.sc (.bool r)))] w0 (headStk (codeOf f130) 0) (mkFS (impl_meets.h0T a0 a1 v3) (impl_meets.h0H a0 a1 v3)) := by
  intro kq
  induction kq with
  | zero => intro v3 h; cases h
  | succ kq ih =>
    intro v3 h
    rw [impl_meets.l0] at h
    by_cases c14 : v3 < (a0.length : Int)
    ·replace h := ip c14 h
     obtain ⟨c15, h⟩ := ifN h
     obtain ⟨c16, h⟩ := ifN h
     have H1 : ∀ (kq : Nat) (v4 : Int) (x : (Bool ⊕ Unit)), impl_meets.l1 kq a0 v3 a1 v4 = some x → (match x with | .inl r' => r' = r | .inr y5 => AG prog 130 38 [.c (.p (.sc (.bool r)))] w0 (exitStk (codeOf f130) 1) (mkFS (impl_meets.x1T a0 a1 v3) (impl_meets.x1H a0 a1 v3))) → AG prog 130 38 [.c (.p (.sc (.bool r)))] w0 (headStk (codeOf f130) 1) (mkFS (impl_meets.h1T a0 a1 v3 v4) (impl_meets.h1H a0 a1 v3 v4)) := by
      intro kq
      induction kq with
      | zero => intro v4 x h hx; cases h
      | succ kq ih =>
        intro v4 x h hx
        rw [impl_meets.l1] at h
        by_cases c23 : v4 < (((a0.drop (0 : Int).toNat).take (v3.toNat - (0 : Int).toNat)).length : Int)
        ·replace h := ip c23 h
         obtain ⟨c24, h⟩ := ifN h
         obtain ⟨c25, h⟩ := ifN h
         obtain ⟨c26, h⟩ := ifN h
         obtain ⟨c27, h⟩ := ifN h
         obtain ⟨c28, h⟩ := ifN h
         by_cases c29 : (rdD 0 ((rdD z53 a0 v3).f0) a1) = (rdD 0 ((rdD z53 a0 v4).f0) a1)
         ·replace h := ip c29 h
          cases h
          subst hx
          exact rt func130 [.b true, .b true, .fin] (oT c23 (o1 c15 (o1 c14 (o1 c24 (o1 c25 (o1 c26 (o1 c27 (o1 c24 (o1 c28 (oT c29 on))))))))))
         ·replace h := iq c29 h
          exact hd func130 [.b true, .b false, .fin] (oT c23 (o1 c15 (o1 c14 (o1 c24 (o1 c25 (o1 c26 (o1 c27 (o1 c24 (o1 c28 (oF c29 on)))))))))) (ih (w64 (v4 + 1)) _ h hx)
        ·replace h := iq c23 h
         cases h
         exact st func130 [.b false, .fin] (oF c23 on) hx
     obtain ⟨x30, g30, h⟩ := bindN h
     cases x30 with
     | inl r' =>
       exact hd func130 [.b true, .cst 14 (R 1 e53 z53 ((a0.drop (0 : Int).toNat).take (v3.toNat - (0 : Int).toNat))), .fin] (oT c14 (o1 (by decide : (0 : Int) ≤ 0) (o1 c15 (o1 c16 (o1 (VE.cut (z := 1) (e := e53) (d := z53) a0 (n := a0.length) (lo := 0) (hi := v3) rfl (by decide : (0 : Int) ≤ 0) c15 c16) on))))) (H1 kq 0 _ g30 (Option.some.inj h))
     | inr y5 =>
       refine hd func130 [.b true, .cst 14 (R 1 e53 z53 ((a0.drop (0 : Int).toNat).take (v3.toNat - (0 : Int).toNat))), .fin] (oT c14 (o1 (by decide : (0 : Int) ≤ 0) (o1 c15 (o1 c16 (o1 (VE.cut (z := 1) (e := e53) (d := z53) a0 (n := a0.length) (lo := 0) (hi := v3) rfl (by decide : (0 : Int) ≤ 0) c15 c16) on))))) (H1 kq 0 _ g30 ?_)
       show AG prog 130 38 [.c (.p (.sc (.bool r)))] w0 (exitStk (codeOf f130) 1) (mkFS (impl_meets.x1T a0 a1 v3) (impl_meets.x1H a0 a1 v3))
       exact hd func130 [.fin] on (ih (w64 (v3 + 1)) h)
    ·replace h := iq c14 h
     cases h
     exact rt func130 [.b false, .fin, .fin] (oF c14 on)
 exact hd func130 [.fin] on (H0 k 0 h)
def impl_MeetAt.f (k : Nat) (a0 : List S53) (a1 : Int) : Option Bool := (impl_LevelWays.f k a0 a1).bind fun t1 => if t1 = true then ((impl_meets.f k a0 a1).bind fun t2 => if t2 = true then (some true) else ((impl_meets.f k a0 (w64 (a1 + 1))).bind fun t3 => some t3)) else (some false)
theorem impl_MeetAt.go : Callable prog 99 := ⟨_, func99, by kernel_rfl, rfl⟩
theorem impl_MeetAt.ok (k : Nat) (a0 : List S53) (a1 : Int) (r : Bool) (h : impl_MeetAt.f k a0 a1 = some r) : VCalls prog 99 [.c (R 1 e53 z53 a0), .c (iI a1)] [.c (.p (.sc (.bool r)))] := by
 unfold impl_MeetAt.f at h
 refine VCalls.of (fn := f99) (N := 19) func99 rfl rfl (fun w0 => ?_)
 obtain ⟨t1, g1, h⟩ := bindN h
 let C1 := mkCon (impl_LevelWays.ok k a0 a1 t1 g1) impl_LevelWays.go
 by_cases c2 : t1 = true
 ·replace h := ip c2 h
  obtain ⟨t2, g3, h⟩ := bindN h
  let C3 := mkCon (impl_meets.ok k a0 a1 t2 g3) impl_meets.go
  by_cases c4 : t2 = true
  ·replace h := ip c4 h
   cases h
   exact rt func99 [.call C1, .dec 8 true, .call C3, .dec 12 true, .fin] (oc C1 (o1 c2 (oc C3 (o1 c4 on))))
  ·replace h := iq c4 h
   obtain ⟨t3, g5, h⟩ := bindN h
   let C5 := mkCon (impl_meets.ok k a0 (w64 (a1 + 1)) t3 g5) impl_meets.go
   cases h
   exact rt func99 [.call C1, .dec 8 true, .call C3, .dec 12 false, .call C5, .fin] (oc C1 (o1 c2 (oc C3 (o1 (eqf c4) (oc C5 on)))))
 ·replace h := iq c2 h
  cases h
  exact rt func99 [.call C1, .dec 8 false, .fin] (oc C1 (o1 (eqf c2) on))
def impl_PlanFault_1.f (k : Nat) (a0 : Int) (a1 : S32) : Option Bool := (impl_MeetAt.f k a1.f2 a0).bind fun t1 => some t1
theorem impl_PlanFault_1.go : Callable prog 98 := ⟨_, func98, by kernel_rfl, rfl⟩
theorem impl_PlanFault_1.ok (k : Nat) (a0 : Int) (a1 : S32) (r : Bool) (h : impl_PlanFault_1.f k a0 a1 = some r) : VCalls prog 98 [.c (iI a0), .ptr [.sc (.int .i64 a1.f0), .sc (.int .i64 a1.f1), R 1 e53 z53 a1.f2]] [.c (.p (.sc (.bool r)))] := by
 unfold impl_PlanFault_1.f at h
 refine VCalls.of (fn := f98) (N := 8) func98 rfl rfl (fun w0 => ?_)
 obtain ⟨t1, g1, h⟩ := bindN h
 let C1 := mkCon (impl_MeetAt.ok k a1.f2 a0 t1 g1) impl_MeetAt.go
 cases h
 exact rt func98 [.call C1, .fin] (oc C1 on)
def impl_someTime_3.h0T (a0 : Int) (gi1 : FuncId) (u1_0_0 : V) (u1_0_1 : V) (u1_0_2 : V) (v2 : Int) : List (Nat × AV) := [(0, .t (.c (.p false (iI a0)))), (1, .bfn gi1 [[u1_0_0, u1_0_1, u1_0_2]]), (5, .t (.c (.p true (iI v2))))]
def impl_someTime_3.h0H (a0 : Int) (gi1 : FuncId) (u1_0_0 : V) (u1_0_1 : V) (u1_0_2 : V) (v2 : Int) : List (Nat × Content) := []
def impl_someTime_3.l0 : Nat → Int → (Int → Option Bool) → Int → Option Bool
 | 0, _, _, _ => none
 | kq + 1, a0, p1, v2 => if v2 < a0 then ((p1 v2).bind fun t3 => if t3 = true then (some true) else (impl_someTime_3.l0 kq a0 p1 (w64 (v2 + 1)))) else (some false)
def impl_someTime_3.f (k : Nat) (a0 : Int) (p1 : Int → Option Bool) : Option Bool := impl_someTime_3.l0 k a0 p1 0
theorem impl_someTime_3.go : Callable prog 97 := ⟨_, func97, by kernel_rfl, rfl⟩
theorem impl_someTime_3.ok (k : Nat) (a0 : Int) (p1 : Int → Option Bool) (gi1 : FuncId) (u1_0_0 u1_0_1 u1_0_2 : V) (hp1 : ∀ x0 r, p1 x0 = some r → VCalls prog gi1 [.c (iI x0), .ptr [u1_0_0, u1_0_1, u1_0_2]] [.c (.p (.sc (.bool r)))]) (go1 : Callable prog gi1) (r : Bool) (h : impl_someTime_3.f k a0 p1 = some r) : VCalls prog 97 [.c (iI a0), .fn gi1 [[u1_0_0, u1_0_1, u1_0_2]]] [.c (.p (.sc (.bool r)))] := by
 unfold impl_someTime_3.f at h
 refine VCalls.of (fn := f97) (N := 14) func97 rfl rfl (fun w0 => ?_)
 have H0 : ∀ (kq : Nat) (v2 : Int), impl_someTime_3.l0 kq a0 p1 v2 = some r → AG prog 97 14 [.c (.p (.sc (.bool r)))] w0 (headStk (codeOf f97) 0) (mkFS (impl_someTime_3.h0T a0 gi1 u1_0_0 u1_0_1 u1_0_2 v2) (impl_someTime_3.h0H a0 gi1 u1_0_0 u1_0_1 u1_0_2 v2)) := by
  intro kq
  induction kq with
  | zero => intro v2 h; cases h
  | succ kq ih =>
    intro v2 h
    rw [impl_someTime_3.l0] at h
    by_cases c4 : v2 < a0
    ·replace h := ip c4 h
     obtain ⟨t3, g5, h⟩ := bindN h
     let C5 := mkCon (hp1 v2 t3 g5) go1
     by_cases c6 : t3 = true
     ·replace h := ip c6 h
      cases h
      exact rt func97 [.b true, .call C5, .b true, .fin] (oT c4 (oc C5 (o1 c6 on)))
     ·replace h := iq c6 h
      exact hd func97 [.b true, .call C5, .b false, .fin] (oT c4 (oc C5 (o1 (eqf c6) on))) (ih (w64 (v2 + 1)) h)
    ·replace h := iq c4 h
     cases h
     exact rt func97 [.b false, .fin, .fin] (oF c4 on)
 exact hd func97 [.fin] on (H0 k 0 h)
def impl_nextOf_1.f (a0 : S53) (a1 : Int) (a2 : S53) : Option Bool := if 0 ≤ a1 then (if a1 < (a0.f0.length : Int) then (if 0 ≤ (w64 (a1 + 1)) then (if (w64 (a1 + 1)) < (a2.f0.length : Int) then (some (decide ((rdD 0 a0.f0 a1) = (rdD 0 a2.f0 (w64 (a1 + 1)))))) else none) else none) else none) else none
theorem impl_nextOf_1.go : Callable prog 147 := ⟨_, func147, by kernel_rfl, rfl⟩
theorem impl_nextOf_1.ok (a0 : S53) (a1 : Int) (a2 : S53) (r : Bool) (h : impl_nextOf_1.f a0 a1 a2 = some r) : VCalls prog 147 [.agg (e53 a0), .ptr [.sc (.int .i64 a1)], .ptr [R 1 (eI .i64) 0 a2.f0]] [.c (.p (.sc (.bool r)))] := by
 unfold impl_nextOf_1.f at h
 refine VCalls.of (fn := f147) (N := 17) func147 rfl rfl (fun w0 => ?_)
 obtain ⟨c1, h⟩ := ifN h
 obtain ⟨c2, h⟩ := ifN h
 obtain ⟨c3, h⟩ := ifN h
 obtain ⟨c4, h⟩ := ifN h
 cases h
 exact rt func147 [.fin] (o1 c1 (o1 c2 (o1 c3 (o1 c4 on))))
def slices_IndexFunc_impl_Way_impl_Way_1_1.h0T (a0 : List S53) (gi1 : FuncId) (u1_0_0 : V) (u1_1_0 : V) (v2 : Int) : List (Nat × AV) := [(0, .t (.c (.p false (R 1 e53 z53 a0)))), (1, .bfn gi1 [[u1_0_0], [u1_1_0]]), (7, .t (.c (.p true (.sc (.int .i64 (a0.length : Int)))))), (8, .t (.c (.p true (iI v2))))]
def slices_IndexFunc_impl_Way_impl_Way_1_1.h0H (a0 : List S53) (gi1 : FuncId) (u1_0_0 : V) (u1_1_0 : V) (v2 : Int) : List (Nat × Content) := []
def slices_IndexFunc_impl_Way_impl_Way_1_1.l0 : Nat → List S53 → (S53 → Option Bool) → Int → Option Int
 | 0, _, _, _ => none
 | kq + 1, a0, p1, v2 => if v2 < (a0.length : Int) then (if 0 ≤ v2 then ((p1 (rdD z53 a0 v2)).bind fun t3 => if t3 = true then (some v2) else (slices_IndexFunc_impl_Way_impl_Way_1_1.l0 kq a0 p1 (w64 (v2 + 1)))) else none) else (some (-1))
def slices_IndexFunc_impl_Way_impl_Way_1_1.f (k : Nat) (a0 : List S53) (p1 : S53 → Option Bool) : Option Int := slices_IndexFunc_impl_Way_impl_Way_1_1.l0 k a0 p1 0
theorem slices_IndexFunc_impl_Way_impl_Way_1_1.go : Callable prog 138 := ⟨_, func138, by kernel_rfl, rfl⟩
theorem slices_IndexFunc_impl_Way_impl_Way_1_1.ok (k : Nat) (a0 : List S53) (p1 : S53 → Option Bool) (gi1 : FuncId) (u1_0_0 u1_1_0 : V) (hp1 : ∀ x0 r, p1 x0 = some r → VCalls prog gi1 [.agg (e53 x0), .ptr [u1_0_0], .ptr [u1_1_0]] [.c (.p (.sc (.bool r)))]) (go1 : Callable prog gi1) (r : Int) (h : slices_IndexFunc_impl_Way_impl_Way_1_1.f k a0 p1 = some r) : VCalls prog 138 [.c (R 1 e53 z53 a0), .fn gi1 [[u1_0_0], [u1_1_0]]] [.c (.p (iI r))] := by
 unfold slices_IndexFunc_impl_Way_impl_Way_1_1.f at h
 refine VCalls.of (fn := f138) (N := 19) func138 rfl rfl (fun w0 => ?_)
 have H0 : ∀ (kq : Nat) (v2 : Int), slices_IndexFunc_impl_Way_impl_Way_1_1.l0 kq a0 p1 v2 = some r → AG prog 138 19 [.c (.p (iI r))] w0 (headStk (codeOf f138) 0) (mkFS (slices_IndexFunc_impl_Way_impl_Way_1_1.h0T a0 gi1 u1_0_0 u1_1_0 v2) (slices_IndexFunc_impl_Way_impl_Way_1_1.h0H a0 gi1 u1_0_0 u1_1_0 v2)) := by
  intro kq
  induction kq with
  | zero => intro v2 h; cases h
  | succ kq ih =>
    intro v2 h
    rw [slices_IndexFunc_impl_Way_impl_Way_1_1.l0] at h
    by_cases c4 : v2 < (a0.length : Int)
    ·replace h := ip c4 h
     obtain ⟨c5, h⟩ := ifN h
     obtain ⟨t3, g6, h⟩ := bindN h
     let C6 := mkCon (hp1 (rdD z53 a0 v2) t3 g6) go1
     by_cases c7 : t3 = true
     ·replace h := ip c7 h
      cases h
      exact rt func138 [.b true, .call C6, .b true, .fin] (oT c4 (o1 c5 (o1 c4 (oc C6 (o1 c7 on)))))
     ·replace h := iq c7 h
      exact hd func138 [.b true, .call C6, .b false, .fin] (oT c4 (o1 c5 (o1 c4 (oc C6 (o1 (eqf c7) on))))) (ih (w64 (v2 + 1)) h)
    ·replace h := iq c4 h
     cases h
     exact rt func138 [.b false, .fin, .fin] (oF c4 on)
 exact hd func138 [.fin] on (H0 k 0 h)
def impl_nextOf.h0T (a0 : List S53) (v8 : Int) (a1 : Int) (v7 : List Int) : List (Nat × AV) := [(0, .t (.c (.p false (R 1 e53 z53 a0)))), (3, .ptr 192 0), (5, .t (.c (.h 320320))), (17, .t (.c (.p false (R 1 e53 z53 a0)))), (18, .t (.c (.p true (.sc (.int .i64 (a0.length : Int)))))), (19, .t (.c (.p true (iI v8))))]
def impl_nextOf.h0H (a0 : List S53) (v8 : Int) (a1 : Int) (v7 : List Int) : List (Nat × Content) := [(192, .box 3 [.p false (iI a1)]), (320320, .row 3 1 v7.length (fun j => (eI .i64) (v7.getD j 0)) true)]
def impl_nextOf.l0 : Nat → List S53 → Int → List Int → Int → Option (List Int)
 | 0, _, _, _, _ => none
 | kq + 1, a0, a1, v7, v8 => if v8 < (a0.length : Int) then (if 0 ≤ v8 then ((slices_IndexFunc_impl_Way_impl_Way_1_1.f kq a0 (fun x20 => impl_nextOf_1.f x20 a1 (rdD z53 a0 v8))).bind fun t9 => if (v7.length + 1) * 8 ≤ 140737488355328 then (impl_nextOf.l0 kq a0 a1 (v7 ++ [t9]) (w64 (v8 + 1))) else none) else none) else (some v7)
def impl_nextOf.f (k : Nat) (a0 : List S53) (a1 : Int) : Option (List Int) := (impl_LevelWays.f k a0 a1).bind fun t1 => if t1 = true then ((impl_MeetAt.f k a0 a1).bind fun t2 => if t2 = true then (some ([] : List Int)) else (impl_nextOf.l0 k a0 a1 ([] : List Int) 0)) else (some ([] : List Int))
theorem impl_nextOf.go : Callable prog 131 := ⟨_, func131, by kernel_rfl, rfl⟩
theorem impl_nextOf.ok (k : Nat) (a0 : List S53) (a1 : Int) (r : (List Int)) (h : impl_nextOf.f k a0 a1 = some r) : VCalls prog 131 [.c (R 1 e53 z53 a0), .c (iI a1)] [.c (.own 3 1 r.length (fun j => (eI .i64) (r.getD j 0)))] := by
 unfold impl_nextOf.f at h
 refine VCalls.of (fn := f131) (N := 31) func131 rfl rfl (fun w0 => ?_)
 obtain ⟨t1, g1, h⟩ := bindN h
 let C1 := mkCon (impl_LevelWays.ok k a0 a1 t1 g1) impl_LevelWays.go
 by_cases c2 : t1 = true
 ·replace h := ip c2 h
  obtain ⟨t2, g3, h⟩ := bindN h
  let C3 := mkCon (impl_MeetAt.ok k a0 a1 t2 g3) impl_MeetAt.go
  by_cases c4 : t2 = true
  ·replace h := ip c4 h
   cases h
   exact rt func131 [.call C1, .dec 12 false, .call C3, .b true, .fin, .nil 4 384256 3 1, orow 384256 (eI .i64) 0 ([] : List Int)] (oc C1 (o1 (bnf c2) (oc C3 (o1 c4 (o1 (GE.nil (eI .i64) 0) on)))))
  ·replace h := iq c4 h
   have H0 : ∀ (kq : Nat) (v7 : List Int) (v8 : Int), impl_nextOf.l0 kq a0 a1 v7 v8 = some r → AG prog 131 31 [.c (.own 3 1 r.length (fun j => (eI .i64) (r.getD j 0)))] w0 (headStk (codeOf f131) 0) (mkFS (impl_nextOf.h0T a0 v8 a1 v7) (impl_nextOf.h0H a0 v8 a1 v7)) := by
    intro kq
    induction kq with
    | zero => intro v7 v8 h; cases h
    | succ kq ih =>
      intro v7 v8 h
      rw [impl_nextOf.l0] at h
      by_cases c18 : v8 < (a0.length : Int)
      ·replace h := ip c18 h
       obtain ⟨c19, h⟩ := ifN h
       obtain ⟨t9, g21, h⟩ := bindN h
       let C21 := mkCon (slices_IndexFunc_impl_Way_impl_Way_1_1.ok kq a0 (fun x20 => impl_nextOf_1.f x20 a1 (rdD z53 a0 v8)) 147 (iI a1) (R 1 (eI .i64) 0 ((rdD z53 a0 v8).f0)) (fun x20 r h => impl_nextOf_1.ok x20 a1 (rdD z53 a0 v8) r h) impl_nextOf_1.go t9 g21) slices_IndexFunc_impl_Way_impl_Way_1_1.go
       obtain ⟨c22, h⟩ := ifN h
       exact hd func131 [.b true, .call C21, rowe 27 (eI .i64) 0 ([t9]), .aft 28, orow 320320 (eI .i64) 0 (v7 ++ [t9]), .fin] (oT c18 (o1 c19 (o1 c18 (oc C21 (o1 (GE.lit 1 (eI .i64) 0 [t9] (by intro x; rfl)) (o1 c22 (o1 (GE.app (e := (eI .i64)) (d := 0) v7 ([t9]) rfl (fun _ _ => CE.refl _) rfl) on))))))) (ih (v7 ++ [t9]) (w64 (v8 + 1)) h)
      ·replace h := iq c18 h
       cases h
       exact rt func131 [.b false, .fin, .fin] (oF c18 on)
   exact hd func131 [.call C1, .dec 12 false, .call C3, .b false, .fin, .nil 5 320320 3 1, orow 320320 (eI .i64) 0 ([] : List Int)] (oc C1 (o1 (bnf c2) (oc C3 (o1 (eqf c4) (o1 (GE.nil (eI .i64) 0) on))))) (H0 k ([] : List Int) 0 h)
 ·replace h := iq c2 h
  cases h
  exact rt func131 [.call C1, .dec 12 true, .b true, .fin, .nil 4 384256 3 1, orow 384256 (eI .i64) 0 ([] : List Int)] (oc C1 (oN c2 (oR (o1 (GE.nil (eI .i64) 0) on))))
def impl_ringOf.h0T (a0 : List Int) (a1 : Int) (v2 : Int) (v3 : Int) : List (Nat × AV) := [(0, .t (.c (.p false (R 1 (eI .i64) 0 a0)))), (1, .t (.c (.p false (iI a1)))), (5, .t (.c (.p true (iI v2)))), (6, .t (.c (.p false (iI v3))))]
def impl_ringOf.h0H (a0 : List Int) (a1 : Int) (v2 : Int) (v3 : Int) : List (Nat × Content) := []
def impl_ringOf.l0 : Nat → Int → List Int → Int → Int → Option Int
 | 0, _, _, _, _ => none
 | kq + 1, a1, a0, v2, v3 => if v3 = a1 then (some v2) else (if v3 < 0 then (some 0) else (if (a0.length : Int) < v2 then (some 0) else (if 0 ≤ v3 then (if v3 < (a0.length : Int) then (impl_ringOf.l0 kq a1 a0 (w64 (v2 + 1)) (rdD 0 a0 v3)) else none) else none)))
def impl_ringOf.f (k : Nat) (a0 : List Int) (a1 : Int) : Option Int := if 0 ≤ a1 then (if a1 < (a0.length : Int) then (impl_ringOf.l0 k a1 a0 1 (rdD 0 a0 a1)) else none) else none
theorem impl_ringOf.go : Callable prog 132 := ⟨_, func132, by kernel_rfl, rfl⟩
theorem impl_ringOf.ok (k : Nat) (a0 : List Int) (a1 : Int) (r : Int) (h : impl_ringOf.f k a0 a1 = some r) : VCalls prog 132 [.c (R 1 (eI .i64) 0 a0), .c (iI a1)] [.c (.p (iI r))] := by
 unfold impl_ringOf.f at h
 refine VCalls.of (fn := f132) (N := 29) func132 rfl rfl (fun w0 => ?_)
 obtain ⟨c1, h⟩ := ifN h
 obtain ⟨c2, h⟩ := ifN h
 have H0 : ∀ (kq : Nat) (v2 : Int) (v3 : Int), impl_ringOf.l0 kq a1 a0 v2 v3 = some r → AG prog 132 29 [.c (.p (iI r))] w0 (headStk (codeOf f132) 0) (mkFS (impl_ringOf.h0T a0 a1 v2 v3) (impl_ringOf.h0H a0 a1 v2 v3)) := by
  intro kq
  induction kq with
  | zero => intro v2 v3 h; cases h
  | succ kq ih =>
    intro v2 v3 h
    rw [impl_ringOf.l0] at h
    by_cases c13 : v3 = a1
    ·replace h := ip c13 h
     cases h
     exact rt func132 [.b false, .fin, .fin] (o1 (bnf (decide_eq_true c13)) on)
    ·replace h := iq c13 h
     by_cases c14 : v3 < 0
     ·replace h := ip c14 h
      cases h
      exact rt func132 [.b true, .dec 20 true, .b true, .fin] (o1 (bnt (decide_eq_false c13)) (oT c14 (oR on)))
     ·replace h := iq c14 h
      by_cases c15 : (a0.length : Int) < v2
      ·replace h := ip c15 h
       cases h
       exact rt func132 [.b true, .dec 20 false, .b true, .fin] (o1 (bnt (decide_eq_false c13)) (oF c14 (oT c15 on)))
      ·replace h := iq c15 h
       obtain ⟨c16, h⟩ := ifN h
       obtain ⟨c17, h⟩ := ifN h
       exact hd func132 [.b true, .dec 20 false, .b false, .fin] (o1 (bnt (decide_eq_false c13)) (oF c14 (oF c15 (o1 c16 (o1 c17 on))))) (ih (w64 (v2 + 1)) (rdD 0 a0 v3) h)
 exact hd func132 [.fin] (o1 c1 (o1 c2 on)) (H0 k 1 (rdD 0 a0 a1) h)
def impl_SwapsAt.h0T (v6 : Int) (t1 : List Int) (v5 : Int) : List (Nat × AV) := [(5, .t (.c (.h 640))), (6, .t (.c (.p true (iI v6)))), (12, .t (.c (.p true (.sc (.int .i64 (t1.length : Int)))))), (13, .t (.c (.p true (iI v5))))]
def impl_SwapsAt.h0H (v6 : Int) (t1 : List Int) (v5 : Int) : List (Nat × Content) := [(640, .row 3 1 t1.length (fun j => (eI .i64) (t1.getD j 0)) true)]
def impl_SwapsAt.l0 : Nat → List Int → Int → Int → Option Int
 | 0, _, _, _ => none
 | kq + 1, t1, v5, v6 => if v5 < (t1.length : Int) then ((impl_ringOf.f kq t1 v5).bind fun t7 => if t7 = 2 then (impl_SwapsAt.l0 kq t1 (w64 (v5 + 1)) (w64 (v6 + 1))) else (impl_SwapsAt.l0 kq t1 (w64 (v5 + 1)) v6)) else (some (w64 (v6.tdiv 2)))
def impl_SwapsAt.f (k : Nat) (a0 : List S53) (a1 : Int) : Option Int := (impl_nextOf.f k a0 a1).bind fun t1 => impl_SwapsAt.l0 k t1 0 0
theorem impl_SwapsAt.go : Callable prog 101 := ⟨_, func101, by kernel_rfl, rfl⟩
theorem impl_SwapsAt.ok (k : Nat) (a0 : List S53) (a1 : Int) (r : Int) (h : impl_SwapsAt.f k a0 a1 = some r) : VCalls prog 101 [.c (R 1 e53 z53 a0), .c (iI a1)] [.c (.p (iI r))] := by
 unfold impl_SwapsAt.f at h
 refine VCalls.of (fn := f101) (N := 25) func101 rfl rfl (fun w0 => ?_)
 obtain ⟨t1, g1, h⟩ := bindN h
 let C1 := mkCon (impl_nextOf.ok k a0 a1 t1 g1) impl_nextOf.go
 have H0 : ∀ (kq : Nat) (v5 : Int) (v6 : Int), impl_SwapsAt.l0 kq t1 v5 v6 = some r → AG prog 101 25 [.c (.p (iI r))] w0 (headStk (codeOf f101) 0) (mkFS (impl_SwapsAt.h0T v6 t1 v5) (impl_SwapsAt.h0H v6 t1 v5)) := by
  intro kq
  induction kq with
  | zero => intro v5 v6 h; cases h
  | succ kq ih =>
    intro v5 v6 h
    rw [impl_SwapsAt.l0] at h
    by_cases c8 : v5 < (t1.length : Int)
    ·replace h := ip c8 h
     obtain ⟨t7, g9, h⟩ := bindN h
     let C9 := mkCon (impl_ringOf.ok kq t1 v5 t7 g9) impl_ringOf.go
     by_cases c10 : t7 = 2
     ·replace h := ip c10 h
      exact hd func101 [.b true, .call C9, .b true, .fin] (oT c8 (oc C9 (oT c10 on))) (ih (w64 (v5 + 1)) (w64 (v6 + 1)) h)
     ·replace h := iq c10 h
      exact hd func101 [.b true, .call C9, .b false, .fin] (oT c8 (oc C9 (oF c10 on))) (ih (w64 (v5 + 1)) v6 h)
    ·replace h := iq c8 h
     cases h
     exact rt func101 [.b false, .fin, .fin] (oF c8 (o1 (by decide : (2 : Int) ≠ 0) on))
 exact hd func101 [.call C1, .fin] (oc C1 on) (H0 k 0 0 h)
def impl_PlanFault_2.f (k : Nat) (a0 : Int) (a1 : S32) : Option Bool := (impl_SwapsAt.f k a1.f2 a0).bind fun t1 => some (!decide (t1 = 0))
theorem impl_PlanFault_2.go : Callable prog 100 := ⟨_, func100, by kernel_rfl, rfl⟩
theorem impl_PlanFault_2.ok (k : Nat) (a0 : Int) (a1 : S32) (r : Bool) (h : impl_PlanFault_2.f k a0 a1 = some r) : VCalls prog 100 [.c (iI a0), .ptr [.sc (.int .i64 a1.f0), .sc (.int .i64 a1.f1), R 1 e53 z53 a1.f2]] [.c (.p (.sc (.bool r)))] := by
 unfold impl_PlanFault_2.f at h
 refine VCalls.of (fn := f100) (N := 9) func100 rfl rfl (fun w0 => ?_)
 obtain ⟨t1, g1, h⟩ := bindN h
 let C1 := mkCon (impl_SwapsAt.ok k a1.f2 a0 t1 g1) impl_SwapsAt.go
 cases h
 exact rt func100 [.call C1, .fin] (oc C1 on)
def impl_RingsAt.h0T (v6 : Int) (t1 : List Int) (v5 : Int) : List (Nat × AV) := [(5, .t (.c (.h 640))), (6, .t (.c (.p true (iI v6)))), (12, .t (.c (.p true (.sc (.int .i64 (t1.length : Int)))))), (13, .t (.c (.p true (iI v5))))]
def impl_RingsAt.h0H (v6 : Int) (t1 : List Int) (v5 : Int) : List (Nat × Content) := [(640, .row 3 1 t1.length (fun j => (eI .i64) (t1.getD j 0)) true)]
def impl_RingsAt.l0 : Nat → List Int → Int → Int → Option Int
 | 0, _, _, _ => none
 | kq + 1, t1, v5, v6 => if v5 < (t1.length : Int) then ((impl_ringOf.f kq t1 v5).bind fun t7 => if 2 < t7 then (impl_RingsAt.l0 kq t1 (w64 (v5 + 1)) (w64 (v6 + 1))) else (impl_RingsAt.l0 kq t1 (w64 (v5 + 1)) v6)) else (some v6)
def impl_RingsAt.f (k : Nat) (a0 : List S53) (a1 : Int) : Option Int := (impl_nextOf.f k a0 a1).bind fun t1 => impl_RingsAt.l0 k t1 0 0
theorem impl_RingsAt.go : Callable prog 103 := ⟨_, func103, by kernel_rfl, rfl⟩
theorem impl_RingsAt.ok (k : Nat) (a0 : List S53) (a1 : Int) (r : Int) (h : impl_RingsAt.f k a0 a1 = some r) : VCalls prog 103 [.c (R 1 e53 z53 a0), .c (iI a1)] [.c (.p (iI r))] := by
 unfold impl_RingsAt.f at h
 refine VCalls.of (fn := f103) (N := 24) func103 rfl rfl (fun w0 => ?_)
 obtain ⟨t1, g1, h⟩ := bindN h
 let C1 := mkCon (impl_nextOf.ok k a0 a1 t1 g1) impl_nextOf.go
 have H0 : ∀ (kq : Nat) (v5 : Int) (v6 : Int), impl_RingsAt.l0 kq t1 v5 v6 = some r → AG prog 103 24 [.c (.p (iI r))] w0 (headStk (codeOf f103) 0) (mkFS (impl_RingsAt.h0T v6 t1 v5) (impl_RingsAt.h0H v6 t1 v5)) := by
  intro kq
  induction kq with
  | zero => intro v5 v6 h; cases h
  | succ kq ih =>
    intro v5 v6 h
    rw [impl_RingsAt.l0] at h
    by_cases c8 : v5 < (t1.length : Int)
    ·replace h := ip c8 h
     obtain ⟨t7, g9, h⟩ := bindN h
     let C9 := mkCon (impl_ringOf.ok kq t1 v5 t7 g9) impl_ringOf.go
     by_cases c10 : 2 < t7
     ·replace h := ip c10 h
      exact hd func103 [.b true, .call C9, .b true, .fin] (oT c8 (oc C9 (oT c10 on))) (ih (w64 (v5 + 1)) (w64 (v6 + 1)) h)
     ·replace h := iq c10 h
      exact hd func103 [.b true, .call C9, .b false, .fin] (oT c8 (oc C9 (oF c10 on))) (ih (w64 (v5 + 1)) v6 h)
    ·replace h := iq c8 h
     cases h
     exact rt func103 [.b false, .fin, .fin] (oF c8 on)
 exact hd func103 [.call C1, .fin] (oc C1 on) (H0 k 0 0 h)
def impl_PlanFault_3.f (k : Nat) (a0 : Int) (a1 : S32) : Option Bool := (impl_RingsAt.f k a1.f2 a0).bind fun t1 => some (!decide (t1 = 0))
theorem impl_PlanFault_3.go : Callable prog 102 := ⟨_, func102, by kernel_rfl, rfl⟩
theorem impl_PlanFault_3.ok (k : Nat) (a0 : Int) (a1 : S32) (r : Bool) (h : impl_PlanFault_3.f k a0 a1 = some r) : VCalls prog 102 [.c (iI a0), .ptr [.sc (.int .i64 a1.f0), .sc (.int .i64 a1.f1), R 1 e53 z53 a1.f2]] [.c (.p (.sc (.bool r)))] := by
 unfold impl_PlanFault_3.f at h
 refine VCalls.of (fn := f102) (N := 9) func102 rfl rfl (fun w0 => ?_)
 obtain ⟨t1, g1, h⟩ := bindN h
 let C1 := mkCon (impl_RingsAt.ok k a1.f2 a0 t1 g1) impl_RingsAt.go
 cases h
 exact rt func102 [.call C1, .fin] (oc C1 on)
def impl_PlanFault_4.f (k : Nat) (a0 : Int) (a1 : List Int) : Option Bool := (slices_Contains_int_int.f k a1 a0).bind fun t1 => some (!t1)
theorem impl_PlanFault_4.go : Callable prog 104 := ⟨_, func104, by kernel_rfl, rfl⟩
theorem impl_PlanFault_4.ok (k : Nat) (a0 : Int) (a1 : List Int) (r : Bool) (h : impl_PlanFault_4.f k a0 a1 = some r) : VCalls prog 104 [.c (iI a0), .ptr [R 1 (eI .i64) 0 a1]] [.c (.p (.sc (.bool r)))] := by
 unfold impl_PlanFault_4.f at h
 refine VCalls.of (fn := f104) (N := 8) func104 rfl rfl (fun w0 => ?_)
 obtain ⟨t1, g1, h⟩ := bindN h
 let C1 := mkCon (slices_Contains_int_int.ok k a1 a0 t1 g1) slices_Contains_int_int.go
 cases h
 exact rt func104 [.call C1, .fin] (oc C1 on)
def slices_IndexFunc_int_int_1.h0T (a0 : List Int) (gi1 : FuncId) (u1_0_0 : V) (v2 : Int) : List (Nat × AV) := [(0, .t (.c (.p false (R 1 (eI .i64) 0 a0)))), (1, .bfn gi1 [[u1_0_0]]), (7, .t (.c (.p true (.sc (.int .i64 (a0.length : Int)))))), (8, .t (.c (.p true (iI v2))))]
def slices_IndexFunc_int_int_1.h0H (a0 : List Int) (gi1 : FuncId) (u1_0_0 : V) (v2 : Int) : List (Nat × Content) := []
def slices_IndexFunc_int_int_1.l0 : Nat → List Int → (Int → Option Bool) → Int → Option Int
 | 0, _, _, _ => none
 | kq + 1, a0, p1, v2 => if v2 < (a0.length : Int) then (if 0 ≤ v2 then ((p1 (rdD 0 a0 v2)).bind fun t3 => if t3 = true then (some v2) else (slices_IndexFunc_int_int_1.l0 kq a0 p1 (w64 (v2 + 1)))) else none) else (some (-1))
def slices_IndexFunc_int_int_1.f (k : Nat) (a0 : List Int) (p1 : Int → Option Bool) : Option Int := slices_IndexFunc_int_int_1.l0 k a0 p1 0
theorem slices_IndexFunc_int_int_1.go : Callable prog 111 := ⟨_, func111, by kernel_rfl, rfl⟩
theorem slices_IndexFunc_int_int_1.ok (k : Nat) (a0 : List Int) (p1 : Int → Option Bool) (gi1 : FuncId) (u1_0_0 : V) (hp1 : ∀ x0 r, p1 x0 = some r → VCalls prog gi1 [.c (iI x0), .ptr [u1_0_0]] [.c (.p (.sc (.bool r)))]) (go1 : Callable prog gi1) (r : Int) (h : slices_IndexFunc_int_int_1.f k a0 p1 = some r) : VCalls prog 111 [.c (R 1 (eI .i64) 0 a0), .fn gi1 [[u1_0_0]]] [.c (.p (iI r))] := by
 unfold slices_IndexFunc_int_int_1.f at h
 refine VCalls.of (fn := f111) (N := 19) func111 rfl rfl (fun w0 => ?_)
 have H0 : ∀ (kq : Nat) (v2 : Int), slices_IndexFunc_int_int_1.l0 kq a0 p1 v2 = some r → AG prog 111 19 [.c (.p (iI r))] w0 (headStk (codeOf f111) 0) (mkFS (slices_IndexFunc_int_int_1.h0T a0 gi1 u1_0_0 v2) (slices_IndexFunc_int_int_1.h0H a0 gi1 u1_0_0 v2)) := by
  intro kq
  induction kq with
  | zero => intro v2 h; cases h
  | succ kq ih =>
    intro v2 h
    rw [slices_IndexFunc_int_int_1.l0] at h
    by_cases c4 : v2 < (a0.length : Int)
    ·replace h := ip c4 h
     obtain ⟨c5, h⟩ := ifN h
     obtain ⟨t3, g6, h⟩ := bindN h
     let C6 := mkCon (hp1 (rdD 0 a0 v2) t3 g6) go1
     by_cases c7 : t3 = true
     ·replace h := ip c7 h
      cases h
      exact rt func111 [.b true, .call C6, .b true, .fin] (oT c4 (o1 c5 (o1 c4 (oc C6 (o1 c7 on)))))
     ·replace h := iq c7 h
      exact hd func111 [.b true, .call C6, .b false, .fin] (oT c4 (o1 c5 (o1 c4 (oc C6 (o1 (eqf c7) on))))) (ih (w64 (v2 + 1)) h)
    ·replace h := iq c4 h
     cases h
     exact rt func111 [.b false, .fin, .fin] (oF c4 on)
 exact hd func111 [.fin] on (H0 k 0 h)
def slices_ContainsFunc_int_int_1.f (k : Nat) (a0 : List Int) (p1 : Int → Option Bool) : Option Bool := (slices_IndexFunc_int_int_1.f k a0 p1).bind fun t1 => some (decide (0 ≤ t1))
theorem slices_ContainsFunc_int_int_1.go : Callable prog 58 := ⟨_, func58, by kernel_rfl, rfl⟩
theorem slices_ContainsFunc_int_int_1.ok (k : Nat) (a0 : List Int) (p1 : Int → Option Bool) (gi1 : FuncId) (u1_0_0 : V) (hp1 : ∀ x0 r, p1 x0 = some r → VCalls prog gi1 [.c (iI x0), .ptr [u1_0_0]] [.c (.p (.sc (.bool r)))]) (go1 : Callable prog gi1) (r : Bool) (h : slices_ContainsFunc_int_int_1.f k a0 p1 = some r) : VCalls prog 58 [.c (R 1 (eI .i64) 0 a0), .fn gi1 [[u1_0_0]]] [.c (.p (.sc (.bool r)))] := by
 unfold slices_ContainsFunc_int_int_1.f at h
 refine VCalls.of (fn := f58) (N := 9) func58 rfl rfl (fun w0 => ?_)
 obtain ⟨t1, g1, h⟩ := bindN h
 let C1 := mkCon (slices_IndexFunc_int_int_1.ok k a0 p1 gi1 u1_0_0 hp1 go1 t1 g1) slices_IndexFunc_int_int_1.go
 cases h
 exact rt func58 [.call C1, .fin] (oc C1 on)
def impl_movesAfter.h0T (v2 : Int) (v3 : Int) (a0 : S53) : List (Nat × AV) := [(2, .ptr 128 0), (5, .t (.c (.p true (iI v2)))), (6, .t (.c (.p true (iI v3))))]
def impl_movesAfter.h0H (v2 : Int) (v3 : Int) (a0 : S53) : List (Nat × Content) := [(128, .box 53 [.p false (R 1 (eI .i64) 0 a0.f0)])]
def impl_movesAfter.l0 : Nat → S53 → Int → Int → Option Int
 | 0, _, _, _ => none
 | kq + 1, a0, v2, v3 => if v3 < (a0.f0.length : Int) then (if 0 ≤ v3 then (if 0 ≤ (w64 (v3 - 1)) then (if (w64 (v3 - 1)) < (a0.f0.length : Int) then (if (rdD 0 a0.f0 v3) = (rdD 0 a0.f0 (w64 (v3 - 1))) then (impl_movesAfter.l0 kq a0 v2 (w64 (v3 + 1))) else (impl_movesAfter.l0 kq a0 (w64 (v2 + 1)) (w64 (v3 + 1)))) else none) else none) else none) else (some v2)
def impl_movesAfter.f (k : Nat) (a0 : S53) (a1 : Int) : Option Int := impl_movesAfter.l0 k a0 0 (w64 ((if 0 > a1 then 0 else a1) + 1))
theorem impl_movesAfter.go : Callable prog 133 := ⟨_, func133, by kernel_rfl, rfl⟩
theorem impl_movesAfter.ok (k : Nat) (a0 : S53) (a1 : Int) (r : Int) (h : impl_movesAfter.f k a0 a1 = some r) : VCalls prog 133 [.agg (e53 a0), .c (iI a1)] [.c (.p (iI r))] := by
 unfold impl_movesAfter.f at h
 refine VCalls.of (fn := f133) (N := 32) func133 rfl rfl (fun w0 => ?_)
 have H0 : ∀ (kq : Nat) (v2 : Int) (v3 : Int), impl_movesAfter.l0 kq a0 v2 v3 = some r → AG prog 133 32 [.c (.p (iI r))] w0 (headStk (codeOf f133) 0) (mkFS (impl_movesAfter.h0T v2 v3 a0) (impl_movesAfter.h0H v2 v3 a0)) := by
  intro kq
  induction kq with
  | zero => intro v2 v3 h; cases h
  | succ kq ih =>
    intro v2 v3 h
    rw [impl_movesAfter.l0] at h
    by_cases c11 : v3 < (a0.f0.length : Int)
    ·replace h := ip c11 h
     obtain ⟨c12, h⟩ := ifN h
     obtain ⟨c13, h⟩ := ifN h
     obtain ⟨c14, h⟩ := ifN h
     by_cases c15 : (rdD 0 a0.f0 v3) = (rdD 0 a0.f0 (w64 (v3 - 1)))
     ·replace h := ip c15 h
      exact hd func133 [.b true, .b false, .fin] (oT c11 (o1 c12 (o1 c11 (o1 c13 (o1 c14 (o1 (bnf (decide_eq_true c15)) on)))))) (ih v2 (w64 (v3 + 1)) h)
     ·replace h := iq c15 h
      exact hd func133 [.b true, .b true, .fin] (oT c11 (o1 c12 (o1 c11 (o1 c13 (o1 c14 (o1 (bnt (decide_eq_false c15)) on)))))) (ih (w64 (v2 + 1)) (w64 (v3 + 1)) h)
    ·replace h := iq c11 h
     cases h
     exact rt func133 [.b false, .fin, .fin] (oF c11 on)
 exact hd func133 [.fin] on (H0 k 0 (w64 ((if 0 > a1 then 0 else a1) + 1)) h)
def impl_MovesOf.h0T (v4 : Int) (a0 : List S53) (v5 : Int) : List (Nat × AV) := [(3, .t (.c (.p true (iI v4)))), (6, .t (.c (.p false (R 1 e53 z53 a0)))), (7, .t (.c (.p true (.sc (.int .i64 (a0.length : Int)))))), (8, .t (.c (.p true (iI v5))))]
def impl_MovesOf.h0H (v4 : Int) (a0 : List S53) (v5 : Int) : List (Nat × Content) := []
def impl_MovesOf.l0 : Nat → List S53 → Int → Int → Option Int
 | 0, _, _, _ => none
 | kq + 1, a0, v4, v5 => if v5 < (a0.length : Int) then (if 0 ≤ v5 then ((impl_movesAfter.f kq (rdD z53 a0 v5) 0).bind fun t6 => impl_MovesOf.l0 kq a0 (w64 (v4 + t6)) (w64 (v5 + 1))) else none) else (some v4)
def impl_MovesOf.f (k : Nat) (a0 : List S53) : Option Int := impl_MovesOf.l0 k a0 0 0
theorem impl_MovesOf.go : Callable prog 105 := ⟨_, func105, by kernel_rfl, rfl⟩
theorem impl_MovesOf.ok (k : Nat) (a0 : List S53) (r : Int) (h : impl_MovesOf.f k a0 = some r) : VCalls prog 105 [.c (R 1 e53 z53 a0)] [.c (.p (iI r))] := by
 unfold impl_MovesOf.f at h
 refine VCalls.of (fn := f105) (N := 18) func105 rfl rfl (fun w0 => ?_)
 have H0 : ∀ (kq : Nat) (v4 : Int) (v5 : Int), impl_MovesOf.l0 kq a0 v4 v5 = some r → AG prog 105 18 [.c (.p (iI r))] w0 (headStk (codeOf f105) 0) (mkFS (impl_MovesOf.h0T v4 a0 v5) (impl_MovesOf.h0H v4 a0 v5)) := by
  intro kq
  induction kq with
  | zero => intro v4 v5 h; cases h
  | succ kq ih =>
    intro v4 v5 h
    rw [impl_MovesOf.l0] at h
    by_cases c5 : v5 < (a0.length : Int)
    ·replace h := ip c5 h
     obtain ⟨c6, h⟩ := ifN h
     obtain ⟨t6, g7, h⟩ := bindN h
     let C7 := mkCon (impl_movesAfter.ok kq (rdD z53 a0 v5) 0 t6 g7) impl_movesAfter.go
     exact hd func105 [.b true, .call C7, .fin] (oT c5 (o1 c6 (o1 c5 (oc C7 on)))) (ih (w64 (v4 + t6)) (w64 (v5 + 1)) h)
    ·replace h := iq c5 h
     cases h
     exact rt func105 [.b false, .fin, .fin] (oF c5 on)
 exact hd func105 [.fin] on (H0 k 0 0 h)
def impl_PlanFault.f (k : Nat) (a0 : S24) (a1 : List Int) (a2 : List Int) (a3 : S32) : Option Int := (impl_EndsOf.f k a3.f2).bind fun t1 => (impl_AskOk.f k a0 a1 a2 a3.f0).bind fun t2 => if t2 = true then ((impl_formFault.f k a1 a3).bind fun t3 => if t3 = true then (some 2) else ((impl_stepFault.f k a0 a3.f2).bind fun t4 => if t4 = true then (some 3) else ((impl_someTime_3.f k a3.f0 (fun x8 => impl_PlanFault_1.f k x8 a3)).bind fun t5 => if t5 = true then (some 4) else ((impl_someTime_3.f k a3.f0 (fun x11 => impl_PlanFault_2.f k x11 a3)).bind fun t6 => if t6 = true then (some 5) else ((impl_someTime_3.f k a3.f0 (fun x14 => impl_PlanFault_3.f k x14 a3)).bind fun t7 => if t7 = true then (some 6) else ((slices_ContainsFunc_int_int_1.f k a2 (fun x17 => impl_PlanFault_4.f k x17 t1)).bind fun t8 => if t8 = true then (some 7) else ((impl_MovesOf.f k a3.f2).bind fun t9 => if a3.f1 = t9 then (some 0) else (some 8)))))))) else (some 1)
theorem impl_PlanFault.go : Callable prog 53 := ⟨_, func53, by kernel_rfl, rfl⟩
theorem impl_PlanFault.ok (k : Nat) (a0 : S24) (a1 : List Int) (a2 : List Int) (a3 : S32) (r : Int) (h : impl_PlanFault.f k a0 a1 a2 a3 = some r) : VCalls prog 53 [.agg (e24 a0), .c (R 1 (eI .i64) 0 a1), .c (R 1 (eI .i64) 0 a2), .agg (e32 a3)] [.c (.p (iI r))] := by
 unfold impl_PlanFault.f at h
 refine VCalls.of (fn := f53) (N := 56) func53 rfl rfl (fun w0 => ?_)
 obtain ⟨t1, g1, h⟩ := bindN h
 let C1 := mkCon (impl_EndsOf.ok k a3.f2 t1 g1) impl_EndsOf.go
 obtain ⟨t2, g2, h⟩ := bindN h
 let C2 := mkCon (impl_AskOk.ok k a0 a1 a2 a3.f0 t2 g2) impl_AskOk.go
 by_cases c3 : t2 = true
 ·replace h := ip c3 h
  obtain ⟨t3, g4, h⟩ := bindN h
  let C4 := mkCon (impl_formFault.ok k a1 a3 t3 g4) impl_formFault.go
  by_cases c5 : t3 = true
  ·replace h := ip c5 h
   cases h
   exact rt func53 [.call C1, .call C2, .b false, .call C4, .b true, .fin] (oc C1 (oc C2 (o1 (bnf c3) (oc C4 (o1 c5 on)))))
  ·replace h := iq c5 h
   obtain ⟨t4, g6, h⟩ := bindN h
   let C6 := mkCon (impl_stepFault.ok k a0 a3.f2 t4 g6) impl_stepFault.go
   by_cases c7 : t4 = true
   ·replace h := ip c7 h
    cases h
    exact rt func53 [.call C1, .call C2, .b false, .call C4, .b false, .call C6, .b true, .fin] (oc C1 (oc C2 (o1 (bnf c3) (oc C4 (o1 (eqf c5) (oc C6 (o1 c7 on)))))))
   ·replace h := iq c7 h
    obtain ⟨t5, g9, h⟩ := bindN h
    let C9 := mkCon (impl_someTime_3.ok k a3.f0 (fun x8 => impl_PlanFault_1.f k x8 a3) 98 (iI a3.f0) (iI a3.f1) (R 1 e53 z53 a3.f2) (fun x8 r h => impl_PlanFault_1.ok k x8 a3 r h) impl_PlanFault_1.go t5 g9) impl_someTime_3.go
    by_cases c10 : t5 = true
    ·replace h := ip c10 h
     cases h
     exact rt func53 [.call C1, .call C2, .b false, .call C4, .b false, .call C6, .b false, .call C9, .b true, .fin] (oc C1 (oc C2 (o1 (bnf c3) (oc C4 (o1 (eqf c5) (oc C6 (o1 (eqf c7) (oc C9 (o1 c10 on)))))))))
    ·replace h := iq c10 h
     obtain ⟨t6, g12, h⟩ := bindN h
     let C12 := mkCon (impl_someTime_3.ok k a3.f0 (fun x11 => impl_PlanFault_2.f k x11 a3) 100 (iI a3.f0) (iI a3.f1) (R 1 e53 z53 a3.f2) (fun x11 r h => impl_PlanFault_2.ok k x11 a3 r h) impl_PlanFault_2.go t6 g12) impl_someTime_3.go
     by_cases c13 : t6 = true
     ·replace h := ip c13 h
      cases h
      exact rt func53 [.call C1, .call C2, .b false, .call C4, .b false, .call C6, .b false, .call C9, .b false, .call C12, .b true, .fin] (oc C1 (oc C2 (o1 (bnf c3) (oc C4 (o1 (eqf c5) (oc C6 (o1 (eqf c7) (oc C9 (o1 (eqf c10) (oc C12 (o1 c13 on)))))))))))
     ·replace h := iq c13 h
      obtain ⟨t7, g15, h⟩ := bindN h
      let C15 := mkCon (impl_someTime_3.ok k a3.f0 (fun x14 => impl_PlanFault_3.f k x14 a3) 102 (iI a3.f0) (iI a3.f1) (R 1 e53 z53 a3.f2) (fun x14 r h => impl_PlanFault_3.ok k x14 a3 r h) impl_PlanFault_3.go t7 g15) impl_someTime_3.go
      by_cases c16 : t7 = true
      ·replace h := ip c16 h
       cases h
       exact rt func53 [.call C1, .call C2, .b false, .call C4, .b false, .call C6, .b false, .call C9, .b false, .call C12, .b false, .call C15, .b true, .fin] (oc C1 (oc C2 (o1 (bnf c3) (oc C4 (o1 (eqf c5) (oc C6 (o1 (eqf c7) (oc C9 (o1 (eqf c10) (oc C12 (o1 (eqf c13) (oc C15 (o1 c16 on)))))))))))))
      ·replace h := iq c16 h
       obtain ⟨t8, g18, h⟩ := bindN h
       let C18 := mkCon (slices_ContainsFunc_int_int_1.ok k a2 (fun x17 => impl_PlanFault_4.f k x17 t1) 104 (R 1 (eI .i64) 0 t1) (fun x17 r h => impl_PlanFault_4.ok k x17 t1 r h) impl_PlanFault_4.go t8 g18) slices_ContainsFunc_int_int_1.go
       by_cases c19 : t8 = true
       ·replace h := ip c19 h
        cases h
        exact rt func53 [.call C1, .call C2, .b false, .call C4, .b false, .call C6, .b false, .call C9, .b false, .call C12, .b false, .call C15, .b false, .call C18, .b true, .fin] (oc C1 (oc C2 (o1 (bnf c3) (oc C4 (o1 (eqf c5) (oc C6 (o1 (eqf c7) (oc C9 (o1 (eqf c10) (oc C12 (o1 (eqf c13) (oc C15 (o1 (eqf c16) (oc C18 (o1 c19 on)))))))))))))))
       ·replace h := iq c19 h
        obtain ⟨t9, g20, h⟩ := bindN h
        let C20 := mkCon (impl_MovesOf.ok k a3.f2 t9 g20) impl_MovesOf.go
        by_cases c21 : a3.f1 = t9
        ·replace h := ip c21 h
         cases h
         exact rt func53 [.call C1, .call C2, .b false, .call C4, .b false, .call C6, .b false, .call C9, .b false, .call C12, .b false, .call C15, .b false, .call C18, .b false, .call C20, .b false, .fin] (oc C1 (oc C2 (o1 (bnf c3) (oc C4 (o1 (eqf c5) (oc C6 (o1 (eqf c7) (oc C9 (o1 (eqf c10) (oc C12 (o1 (eqf c13) (oc C15 (o1 (eqf c16) (oc C18 (o1 (eqf c19) (oc C20 (o1 (bnf (decide_eq_true c21)) on)))))))))))))))))
        ·replace h := iq c21 h
         cases h
         exact rt func53 [.call C1, .call C2, .b false, .call C4, .b false, .call C6, .b false, .call C9, .b false, .call C12, .b false, .call C15, .b false, .call C18, .b false, .call C20, .b true, .fin] (oc C1 (oc C2 (o1 (bnf c3) (oc C4 (o1 (eqf c5) (oc C6 (o1 (eqf c7) (oc C9 (o1 (eqf c10) (oc C12 (o1 (eqf c13) (oc C15 (o1 (eqf c16) (oc C18 (o1 (eqf c19) (oc C20 (o1 (bnt (decide_eq_false c21)) on)))))))))))))))))
 ·replace h := iq c3 h
  cases h
  exact rt func53 [.call C1, .call C2, .b true, .fin] (oc C1 (oc C2 (oN c3 on)))
def impl_YardOk_1.f (a0 : S55) (a1 : S51) : Option Bool := some (decide (a0.f0 = a1.f0))
theorem impl_YardOk_1.go : Callable prog 57 := ⟨_, func57, by kernel_rfl, rfl⟩
theorem impl_YardOk_1.ok (a0 : S55) (a1 : S51) (r : Bool) (h : impl_YardOk_1.f a0 a1 = some r) : VCalls prog 57 [.agg (e55 a0), .ptr [.sc (.int .i64 a1.f0), .sc (.int .i64 a1.f1), .sc (.int .i64 a1.f2), .sc (.bool a1.f3)]] [.c (.p (.sc (.bool r)))] := by
 unfold impl_YardOk_1.f at h
 refine VCalls.of (fn := f57) (N := 9) func57 rfl rfl (fun w0 => ?_)
 cases h
 exact rt func57 [.fin] on
def slices_IndexFunc_impl_Job_impl_Job_4.h0T (a0 : List S55) (gi1 : FuncId) (u1_0_0 : V) (u1_0_1 : V) (u1_0_2 : V) (u1_0_3 : V) (v2 : Int) : List (Nat × AV) := [(0, .t (.c (.p false (R 3 e55 z55 a0)))), (1, .bfn gi1 [[u1_0_0, u1_0_1, u1_0_2, u1_0_3]]), (7, .t (.c (.p true (.sc (.int .i64 (a0.length : Int)))))), (8, .t (.c (.p true (iI v2))))]
def slices_IndexFunc_impl_Job_impl_Job_4.h0H (a0 : List S55) (gi1 : FuncId) (u1_0_0 : V) (u1_0_1 : V) (u1_0_2 : V) (u1_0_3 : V) (v2 : Int) : List (Nat × Content) := []
def slices_IndexFunc_impl_Job_impl_Job_4.l0 : Nat → List S55 → (S55 → Option Bool) → Int → Option Int
 | 0, _, _, _ => none
 | kq + 1, a0, p1, v2 => if v2 < (a0.length : Int) then (if 0 ≤ v2 then ((p1 (rdD z55 a0 v2)).bind fun t3 => if t3 = true then (some v2) else (slices_IndexFunc_impl_Job_impl_Job_4.l0 kq a0 p1 (w64 (v2 + 1)))) else none) else (some (-1))
def slices_IndexFunc_impl_Job_impl_Job_4.f (k : Nat) (a0 : List S55) (p1 : S55 → Option Bool) : Option Int := slices_IndexFunc_impl_Job_impl_Job_4.l0 k a0 p1 0
theorem slices_IndexFunc_impl_Job_impl_Job_4.go : Callable prog 110 := ⟨_, func110, by kernel_rfl, rfl⟩
theorem slices_IndexFunc_impl_Job_impl_Job_4.ok (k : Nat) (a0 : List S55) (p1 : S55 → Option Bool) (gi1 : FuncId) (u1_0_0 u1_0_1 u1_0_2 u1_0_3 : V) (hp1 : ∀ x0 r, p1 x0 = some r → VCalls prog gi1 [.agg (e55 x0), .ptr [u1_0_0, u1_0_1, u1_0_2, u1_0_3]] [.c (.p (.sc (.bool r)))]) (go1 : Callable prog gi1) (r : Int) (h : slices_IndexFunc_impl_Job_impl_Job_4.f k a0 p1 = some r) : VCalls prog 110 [.c (R 3 e55 z55 a0), .fn gi1 [[u1_0_0, u1_0_1, u1_0_2, u1_0_3]]] [.c (.p (iI r))] := by
 unfold slices_IndexFunc_impl_Job_impl_Job_4.f at h
 refine VCalls.of (fn := f110) (N := 19) func110 rfl rfl (fun w0 => ?_)
 have H0 : ∀ (kq : Nat) (v2 : Int), slices_IndexFunc_impl_Job_impl_Job_4.l0 kq a0 p1 v2 = some r → AG prog 110 19 [.c (.p (iI r))] w0 (headStk (codeOf f110) 0) (mkFS (slices_IndexFunc_impl_Job_impl_Job_4.h0T a0 gi1 u1_0_0 u1_0_1 u1_0_2 u1_0_3 v2) (slices_IndexFunc_impl_Job_impl_Job_4.h0H a0 gi1 u1_0_0 u1_0_1 u1_0_2 u1_0_3 v2)) := by
  intro kq
  induction kq with
  | zero => intro v2 h; cases h
  | succ kq ih =>
    intro v2 h
    rw [slices_IndexFunc_impl_Job_impl_Job_4.l0] at h
    by_cases c4 : v2 < (a0.length : Int)
    ·replace h := ip c4 h
     obtain ⟨c5, h⟩ := ifN h
     obtain ⟨t3, g6, h⟩ := bindN h
     let C6 := mkCon (hp1 (rdD z55 a0 v2) t3 g6) go1
     by_cases c7 : t3 = true
     ·replace h := ip c7 h
      cases h
      exact rt func110 [.b true, .call C6, .b true, .fin] (oT c4 (o1 c5 (o1 c4 (oc C6 (o1 c7 on)))))
     ·replace h := iq c7 h
      exact hd func110 [.b true, .call C6, .b false, .fin] (oT c4 (o1 c5 (o1 c4 (oc C6 (o1 (eqf c7) on))))) (ih (w64 (v2 + 1)) h)
    ·replace h := iq c4 h
     cases h
     exact rt func110 [.b false, .fin, .fin] (oF c4 on)
 exact hd func110 [.fin] on (H0 k 0 h)
def slices_ContainsFunc_impl_Job_impl_Job_4.f (k : Nat) (a0 : List S55) (p1 : S55 → Option Bool) : Option Bool := (slices_IndexFunc_impl_Job_impl_Job_4.f k a0 p1).bind fun t1 => some (decide (0 ≤ t1))
theorem slices_ContainsFunc_impl_Job_impl_Job_4.go : Callable prog 56 := ⟨_, func56, by kernel_rfl, rfl⟩
theorem slices_ContainsFunc_impl_Job_impl_Job_4.ok (k : Nat) (a0 : List S55) (p1 : S55 → Option Bool) (gi1 : FuncId) (u1_0_0 u1_0_1 u1_0_2 u1_0_3 : V) (hp1 : ∀ x0 r, p1 x0 = some r → VCalls prog gi1 [.agg (e55 x0), .ptr [u1_0_0, u1_0_1, u1_0_2, u1_0_3]] [.c (.p (.sc (.bool r)))]) (go1 : Callable prog gi1) (r : Bool) (h : slices_ContainsFunc_impl_Job_impl_Job_4.f k a0 p1 = some r) : VCalls prog 56 [.c (R 3 e55 z55 a0), .fn gi1 [[u1_0_0, u1_0_1, u1_0_2, u1_0_3]]] [.c (.p (.sc (.bool r)))] := by
 unfold slices_ContainsFunc_impl_Job_impl_Job_4.f at h
 refine VCalls.of (fn := f56) (N := 9) func56 rfl rfl (fun w0 => ?_)
 obtain ⟨t1, g1, h⟩ := bindN h
 let C1 := mkCon (slices_IndexFunc_impl_Job_impl_Job_4.ok k a0 p1 gi1 u1_0_0 u1_0_1 u1_0_2 u1_0_3 hp1 go1 t1 g1) slices_IndexFunc_impl_Job_impl_Job_4.go
 cases h
 exact rt func56 [.call C1, .fin] (oc C1 on)
def impl_YardOk_2.f (k : Nat) (a0 : Int) (a1 : List Int) : Option Bool := (slices_Contains_int_int.f k a1 a0).bind fun t1 => some t1
theorem impl_YardOk_2.go : Callable prog 60 := ⟨_, func60, by kernel_rfl, rfl⟩
theorem impl_YardOk_2.ok (k : Nat) (a0 : Int) (a1 : List Int) (r : Bool) (h : impl_YardOk_2.f k a0 a1 = some r) : VCalls prog 60 [.c (iI a0), .ptr [R 1 (eI .i64) 0 a1]] [.c (.p (.sc (.bool r)))] := by
 unfold impl_YardOk_2.f at h
 refine VCalls.of (fn := f60) (N := 7) func60 rfl rfl (fun w0 => ?_)
 obtain ⟨t1, g1, h⟩ := bindN h
 let C1 := mkCon (slices_Contains_int_int.ok k a1 a0 t1 g1) slices_Contains_int_int.go
 cases h
 exact rt func60 [.call C1, .fin] (oc C1 on)
def impl_YardOk.h0T (a0 : S35) (v12 : Int) (t7 : List Int) : List (Nat × AV) := [(1, .ptr 64 0), (4, .ptr 256 0), (90, .t (.c (.p false (R 4 e51 z51 a0.f1)))), (91, .t (.c (.p true (.sc (.int .i64 (a0.f1.length : Int)))))), (92, .t (.c (.p true (iI v12))))]
def impl_YardOk.h0H (a0 : S35) (v12 : Int) (t7 : List Int) : List (Nat × Content) := [(64, .box 35 [.p false (iI a0.f0.f0.f0), .p false (iI a0.f0.f0.f1), .p false (.sc (.string a0.f0.f0.f2)), .p false (iI a0.f0.f1), .p false (iI a0.f0.f2), .p false (iI a0.f0.f3), .p false (iI a0.f0.f4), .p false (R 4 e51 z51 a0.f1), .p false (iI a0.f2.f0), .p false (iI a0.f2.f1), .p false (R 1 (eI .i64) 0 a0.f2.f2), .p false (iI a0.f3), .p false (.sc (.bool a0.f4)), .p false (iI a0.f5.f0), .p false (iI a0.f5.f1), .p false (R 1 e53 z53 a0.f5.f2), .p false (R 3 e55 z55 a0.f6), .p false (R 1 (eI .i64) 0 a0.f7)]), (256, .box 22 [.h 4736]), (4736, .row 3 1 t7.length (fun j => (eI .i64) (t7.getD j 0)) true)]
def impl_YardOk.l0 : Nat → S35 → List Int → Int → Option Bool
 | 0, _, _, _ => none
 | kq + 1, a0, t7, v12 => if v12 < (a0.f1.length : Int) then (if 0 ≤ v12 then ((slices_ContainsFunc_impl_Job_impl_Job_4.f kq a0.f6 (fun x29 => impl_YardOk_1.f x29 (rdD z51 a0.f1 v12))).bind fun t13 => if t13 = true then (impl_YardOk.l0 kq a0 t7 (w64 (v12 + 1))) else ((impl_heldBy.f (rdD z51 a0.f1 v12)).bind fun t14 => (slices_ContainsFunc_int_int_1.f kq t14 (fun x33 => impl_YardOk_2.f kq x33 t7)).bind fun t15 => if t15 = true then (some false) else (impl_YardOk.l0 kq a0 t7 (w64 (v12 + 1))))) else none) else (some true)
def impl_YardOk.f (k : Nat) (a0 : S35) : Option Bool := (impl_SetupOk.f k a0.f0).bind fun t1 => if t1 = true then ((impl_RobotsOk.f k a0.f0.f0 a0.f1).bind fun t2 => if t2 = true then ((impl_WindowOk.f k a0.f2).bind fun t3 => if t3 = true then (if a0.f2.f0 = a0.f0.f2 then (if a0.f2.f1 = a0.f0.f3 then (if a0.f3 < 0 then (some false) else (if 1000000000 < a0.f3 then (some false) else ((impl_JobsOk.f k a0).bind fun t4 => if t4 = true then ((impl_areFree.f k a0.f0.f0 a0.f7).bind fun t5 => if t5 = true then ((impl_isAscending.f k a0.f7).bind fun t6 => if t6 = true then (if a0.f4 = true then ((impl_Footprint.f k a0).bind fun t7 => (impl_onlyCells.f k a0.f0.f0 t7).bind fun t8 => (impl_firstCells.f k a0.f5.f2).bind fun t9 => (impl_PlanFault.f k t8 t9 a0.f7 a0.f5).bind fun t10 => if t10 = 0 then (impl_YardOk.l0 k a0 t7 0) else (some false)) else (some true)) else (some false)) else (some false)) else (some false)))) else (some false)) else (some false)) else (some false)) else (some false)) else (some false)
theorem impl_YardOk.go : Callable prog 16 := ⟨_, func16, by kernel_rfl, rfl⟩
theorem impl_YardOk.ok (k : Nat) (a0 : S35) (r : Bool) (h : impl_YardOk.f k a0 = some r) : VCalls prog 16 [.agg (e35 a0)] [.c (.p (.sc (.bool r)))] := by
 unfold impl_YardOk.f at h
 refine VCalls.of (fn := f16) (N := 109) func16 rfl rfl (fun w0 => ?_)
 obtain ⟨t1, g1, h⟩ := bindN h
 let C1 := mkCon (impl_SetupOk.ok k a0.f0 t1 g1) impl_SetupOk.go
 by_cases c2 : t1 = true
 ·replace h := ip c2 h
  obtain ⟨t2, g3, h⟩ := bindN h
  let C3 := mkCon (impl_RobotsOk.ok k a0.f0.f0 a0.f1 t2 g3) impl_RobotsOk.go
  by_cases c4 : t2 = true
  ·replace h := ip c4 h
   obtain ⟨t3, g5, h⟩ := bindN h
   let C5 := mkCon (impl_WindowOk.ok k a0.f2 t3 g5) impl_WindowOk.go
   by_cases c6 : t3 = true
   ·replace h := ip c6 h
    by_cases c7 : a0.f2.f0 = a0.f0.f2
    ·replace h := ip c7 h
     by_cases c8 : a0.f2.f1 = a0.f0.f3
     ·replace h := ip c8 h
      by_cases c9 : a0.f3 < 0
      ·replace h := ip c9 h
       cases h
       exact rt func16 [.call C1, .dec 13 false, .call C3, .dec 21 false, .call C5, .dec 27 false, .dec 35 false, .b false, .dec 46 true, .b true, .fin] (oc C1 (o1 (bnf c2) (oc C3 (o1 (bnf c4) (oc C5 (o1 (bnf c6) (o1 (bnf (decide_eq_true c7)) (o1 (bnf (decide_eq_true c8)) (oT c9 (oR on))))))))))
      ·replace h := iq c9 h
       by_cases c10 : 1000000000 < a0.f3
       ·replace h := ip c10 h
        cases h
        exact rt func16 [.call C1, .dec 13 false, .call C3, .dec 21 false, .call C5, .dec 27 false, .dec 35 false, .b false, .dec 46 false, .dec 51 true, .b true, .fin] (oc C1 (o1 (bnf c2) (oc C3 (o1 (bnf c4) (oc C5 (o1 (bnf c6) (o1 (bnf (decide_eq_true c7)) (o1 (bnf (decide_eq_true c8)) (oF c9 (oT c10 (oR on)))))))))))
       ·replace h := iq c10 h
        obtain ⟨t4, g11, h⟩ := bindN h
        let C11 := mkCon (impl_JobsOk.ok k a0 t4 g11) impl_JobsOk.go
        by_cases c12 : t4 = true
        ·replace h := ip c12 h
         obtain ⟨t5, g13, h⟩ := bindN h
         let C13 := mkCon (impl_areFree.ok k a0.f0.f0 a0.f7 t5 g13) impl_areFree.go
         by_cases c14 : t5 = true
         ·replace h := ip c14 h
          obtain ⟨t6, g15, h⟩ := bindN h
          let C15 := mkCon (impl_isAscending.ok k a0.f7 t6 g15) impl_isAscending.go
          by_cases c16 : t6 = true
          ·replace h := ip c16 h
           by_cases c17 : a0.f4 = true
           ·replace h := ip c17 h
            obtain ⟨t7, g18, h⟩ := bindN h
            let C18 := mkCon (impl_Footprint.ok k a0 t7 g18) impl_Footprint.go
            obtain ⟨t8, g19, h⟩ := bindN h
            let C19 := mkCon (impl_onlyCells.ok k a0.f0.f0 t7 t8 g19) impl_onlyCells.go
            obtain ⟨t9, g20, h⟩ := bindN h
            let C20 := mkCon (impl_firstCells.ok k a0.f5.f2 t9 g20) impl_firstCells.go
            obtain ⟨t10, g21, h⟩ := bindN h
            let C21 := mkCon (impl_PlanFault.ok k t8 t9 a0.f7 a0.f5 t10 g21) impl_PlanFault.go
            by_cases c22 : t10 = 0
            ·replace h := ip c22 h
             have H0 : ∀ (kq : Nat) (v12 : Int), impl_YardOk.l0 kq a0 t7 v12 = some r → AG prog 16 109 [.c (.p (.sc (.bool r)))] w0 (headStk (codeOf f16) 0) (mkFS (impl_YardOk.h0T a0 v12 t7) (impl_YardOk.h0H a0 v12 t7)) := by
              intro kq
              induction kq with
              | zero => intro v12 h; cases h
              | succ kq ih =>
                intro v12 h
                rw [impl_YardOk.l0] at h
                by_cases c27 : v12 < (a0.f1.length : Int)
                ·replace h := ip c27 h
                 obtain ⟨c28, h⟩ := ifN h
                 obtain ⟨t13, g30, h⟩ := bindN h
                 let C30 := mkCon (slices_ContainsFunc_impl_Job_impl_Job_4.ok kq a0.f6 (fun x29 => impl_YardOk_1.f x29 (rdD z51 a0.f1 v12)) 57 (.sc (.int .i64 ((rdD z51 a0.f1 v12).f0))) (.sc (.int .i64 ((rdD z51 a0.f1 v12).f1))) (.sc (.int .i64 ((rdD z51 a0.f1 v12).f2))) (.sc (.bool ((rdD z51 a0.f1 v12).f3))) (fun x29 r h => impl_YardOk_1.ok x29 (rdD z51 a0.f1 v12) r h) impl_YardOk_1.go t13 g30) slices_ContainsFunc_impl_Job_impl_Job_4.go
                 by_cases c31 : t13 = true
                 ·replace h := ip c31 h
                  exact hd func16 [.b true, .call C30, .dec 102 false, .b false, .fin] (oT c27 (o1 c28 (o1 c27 (oc C30 (o1 (bnf c31) (o1 (rfl : false = false) on)))))) (ih (w64 (v12 + 1)) h)
                 ·replace h := iq c31 h
                  obtain ⟨t14, g32, h⟩ := bindN h
                  let C32 := mkCon (impl_heldBy.ok (rdD z51 a0.f1 v12) t14 g32) impl_heldBy.go
                  obtain ⟨t15, g34, h⟩ := bindN h
                  let C34 := mkCon (slices_ContainsFunc_int_int_1.ok kq t14 (fun x33 => impl_YardOk_2.f kq x33 t7) 60 (R 1 (eI .i64) 0 t7) (fun x33 r h => impl_YardOk_2.ok kq x33 t7 r h) impl_YardOk_2.go t15 g34) slices_ContainsFunc_int_int_1.go
                  by_cases c35 : t15 = true
                  ·replace h := ip c35 h
                   cases h
                   exact rt func16 [.b true, .call C30, .dec 102 true, .call C32, .call C34, .b true, .fin] (oT c27 (o1 c28 (o1 c27 (oc C30 (oN c31 (oc C32 (oc C34 (o1 c35 on))))))))
                  ·replace h := iq c35 h
                   exact hd func16 [.b true, .call C30, .dec 102 true, .call C32, .call C34, .b false, .fin] (oT c27 (o1 c28 (o1 c27 (oc C30 (oN c31 (oc C32 (oc C34 (o1 (eqf c35) on)))))))) (ih (w64 (v12 + 1)) h)
                ·replace h := iq c27 h
                 cases h
                 exact rt func16 [.b false, .fin, .fin] (oF c27 on)
             exact hd func16 [.call C1, .dec 13 false, .call C3, .dec 21 false, .call C5, .dec 27 false, .dec 35 false, .b false, .dec 46 false, .dec 51 false, .call C11, .dec 56 false, .call C13, .dec 64 false, .call C15, .b false, .b false, .call C18, .call C19, .call C20, .call C21, .b false, .fin] (oc C1 (o1 (bnf c2) (oc C3 (o1 (bnf c4) (oc C5 (o1 (bnf c6) (o1 (bnf (decide_eq_true c7)) (o1 (bnf (decide_eq_true c8)) (oF c9 (oF c10 (oc C11 (o1 (bnf c12) (oc C13 (o1 (bnf c14) (oc C15 (o1 (bnf c16) (o1 (bnf c17) (oc C18 (oc C19 (oc C20 (oc C21 (o1 (bnf (decide_eq_true c22)) on)))))))))))))))))))))) (H0 k 0 h)
            ·replace h := iq c22 h
             cases h
             exact rt func16 [.call C1, .dec 13 false, .call C3, .dec 21 false, .call C5, .dec 27 false, .dec 35 false, .b false, .dec 46 false, .dec 51 false, .call C11, .dec 56 false, .call C13, .dec 64 false, .call C15, .b false, .b false, .call C18, .call C19, .call C20, .call C21, .b true, .fin] (oc C1 (o1 (bnf c2) (oc C3 (o1 (bnf c4) (oc C5 (o1 (bnf c6) (o1 (bnf (decide_eq_true c7)) (o1 (bnf (decide_eq_true c8)) (oF c9 (oF c10 (oc C11 (o1 (bnf c12) (oc C13 (o1 (bnf c14) (oc C15 (o1 (bnf c16) (o1 (bnf c17) (oc C18 (oc C19 (oc C20 (oc C21 (o1 (bnt (decide_eq_false c22)) on))))))))))))))))))))))
           ·replace h := iq c17 h
            cases h
            exact rt func16 [.call C1, .dec 13 false, .call C3, .dec 21 false, .call C5, .dec 27 false, .dec 35 false, .b false, .dec 46 false, .dec 51 false, .call C11, .dec 56 false, .call C13, .dec 64 false, .call C15, .b false, .b true, .fin] (oc C1 (o1 (bnf c2) (oc C3 (o1 (bnf c4) (oc C5 (o1 (bnf c6) (o1 (bnf (decide_eq_true c7)) (o1 (bnf (decide_eq_true c8)) (oF c9 (oF c10 (oc C11 (o1 (bnf c12) (oc C13 (o1 (bnf c14) (oc C15 (o1 (bnf c16) (oN c17 on)))))))))))))))))
          ·replace h := iq c16 h
           cases h
           exact rt func16 [.call C1, .dec 13 false, .call C3, .dec 21 false, .call C5, .dec 27 false, .dec 35 false, .b false, .dec 46 false, .dec 51 false, .call C11, .dec 56 false, .call C13, .dec 64 false, .call C15, .b true, .fin] (oc C1 (o1 (bnf c2) (oc C3 (o1 (bnf c4) (oc C5 (o1 (bnf c6) (o1 (bnf (decide_eq_true c7)) (o1 (bnf (decide_eq_true c8)) (oF c9 (oF c10 (oc C11 (o1 (bnf c12) (oc C13 (o1 (bnf c14) (oc C15 (oN c16 on))))))))))))))))
         ·replace h := iq c14 h
          cases h
          exact rt func16 [.call C1, .dec 13 false, .call C3, .dec 21 false, .call C5, .dec 27 false, .dec 35 false, .b false, .dec 46 false, .dec 51 false, .call C11, .dec 56 false, .call C13, .dec 64 true, .b true, .fin] (oc C1 (o1 (bnf c2) (oc C3 (o1 (bnf c4) (oc C5 (o1 (bnf c6) (o1 (bnf (decide_eq_true c7)) (o1 (bnf (decide_eq_true c8)) (oF c9 (oF c10 (oc C11 (o1 (bnf c12) (oc C13 (oN c14 (oR on)))))))))))))))
        ·replace h := iq c12 h
         cases h
         exact rt func16 [.call C1, .dec 13 false, .call C3, .dec 21 false, .call C5, .dec 27 false, .dec 35 false, .b false, .dec 46 false, .dec 51 false, .call C11, .dec 56 true, .b true, .fin] (oc C1 (o1 (bnf c2) (oc C3 (o1 (bnf c4) (oc C5 (o1 (bnf c6) (o1 (bnf (decide_eq_true c7)) (o1 (bnf (decide_eq_true c8)) (oF c9 (oF c10 (oc C11 (oN c12 (oR on)))))))))))))
     ·replace h := iq c8 h
      cases h
      exact rt func16 [.call C1, .dec 13 false, .call C3, .dec 21 false, .call C5, .dec 27 false, .dec 35 false, .b true, .fin] (oc C1 (o1 (bnf c2) (oc C3 (o1 (bnf c4) (oc C5 (o1 (bnf c6) (o1 (bnf (decide_eq_true c7)) (o1 (bnt (decide_eq_false c8)) on))))))))
    ·replace h := iq c7 h
     cases h
     exact rt func16 [.call C1, .dec 13 false, .call C3, .dec 21 false, .call C5, .dec 27 false, .dec 35 true, .b true, .fin] (oc C1 (o1 (bnf c2) (oc C3 (o1 (bnf c4) (oc C5 (o1 (bnf c6) (o1 (bnt (decide_eq_false c7)) (oR on))))))))
   ·replace h := iq c6 h
    cases h
    exact rt func16 [.call C1, .dec 13 false, .call C3, .dec 21 false, .call C5, .dec 27 true, .b true, .fin] (oc C1 (o1 (bnf c2) (oc C3 (o1 (bnf c4) (oc C5 (oN c6 (oR on)))))))
  ·replace h := iq c4 h
   cases h
   exact rt func16 [.call C1, .dec 13 false, .call C3, .dec 21 true, .b true, .fin] (oc C1 (o1 (bnf c2) (oc C3 (oN c4 (oR on)))))
 ·replace h := iq c2 h
  cases h
  exact rt func16 [.call C1, .dec 13 true, .b true, .fin] (oc C1 (oN c2 (oR on)))
def impl_flag.f (a0 : Bool) : Option Int := if a0 = true then (some 1) else (some 0)
theorem impl_flag.go : Callable prog 62 := ⟨_, func62, by kernel_rfl, rfl⟩
theorem impl_flag.ok (a0 : Bool) (r : Int) (h : impl_flag.f a0 = some r) : VCalls prog 62 [.c (.sc (.bool a0))] [.c (.p (iI r))] := by
 unfold impl_flag.f at h
 refine VCalls.of (fn := f62) (N := 4) func62 rfl rfl (fun w0 => ?_)
 by_cases c1 : a0 = true
 ·replace h := ip c1 h
  cases h
  exact rt func62 [.b true, .fin] (o1 c1 on)
 ·replace h := iq c1 h
  cases h
  exact rt func62 [.b false, .fin] (o1 (eqf c1) on)
def impl_YardNums.h0T (v6 : Int) (a0 : S35) (v5 : List Int) : List (Nat × AV) := [(1, .ptr 64 0), (3, .ptr 192 0), (4, .t (.c (.h 1472))), (5, .t (.c (.p true (iI v6))))]
def impl_YardNums.h0H (v6 : Int) (a0 : S35) (v5 : List Int) : List (Nat × Content) := [(64, .box 35 [.p false (iI a0.f0.f0.f0), .p false (iI a0.f0.f0.f1), .p false (.sc (.string a0.f0.f0.f2)), .p false (iI a0.f0.f1), .p false (iI a0.f0.f2), .p false (iI a0.f0.f3), .p false (iI a0.f0.f4), .p false (R 4 e51 z51 a0.f1), .p false (iI a0.f2.f0), .p false (iI a0.f2.f1), .p false (R 1 (eI .i64) 0 a0.f2.f2), .p false (iI a0.f3), .p false (.sc (.bool a0.f4)), .p false (iI a0.f5.f0), .p false (iI a0.f5.f1), .p false (R 1 e53 z53 a0.f5.f2), .p false (R 3 e55 z55 a0.f6), .p false (R 1 (eI .i64) 0 a0.f7)]), (192, .box 26 [.p false (iI a0.f0.f0.f0), .p false (iI a0.f0.f0.f1), .p false (.sc (.string a0.f0.f0.f2)), .p false (iI a0.f0.f1), .p false (iI a0.f0.f2), .p false (iI a0.f0.f3), .p false (iI a0.f0.f4)]), (1472, .row 3 1 v5.length (fun j => (eI .i64) (v5.getD j 0)) true)]
def impl_YardNums.x0T (a0 : S35) (y7 : (List Int)) : List (Nat × AV) := [(1, .ptr 64 0), (3, .ptr 192 0), (4, .t (.c (.h 1472)))]
def impl_YardNums.x0H (a0 : S35) (y7 : (List Int)) : List (Nat × Content) := [(64, .box 35 [.p false (iI a0.f0.f0.f0), .p false (iI a0.f0.f0.f1), .p false (.sc (.string a0.f0.f0.f2)), .p false (iI a0.f0.f1), .p false (iI a0.f0.f2), .p false (iI a0.f0.f3), .p false (iI a0.f0.f4), .p false (R 4 e51 z51 a0.f1), .p false (iI a0.f2.f0), .p false (iI a0.f2.f1), .p false (R 1 (eI .i64) 0 a0.f2.f2), .p false (iI a0.f3), .p false (.sc (.bool a0.f4)), .p false (iI a0.f5.f0), .p false (iI a0.f5.f1), .p false (R 1 e53 z53 a0.f5.f2), .p false (R 3 e55 z55 a0.f6), .p false (R 1 (eI .i64) 0 a0.f7)]), (192, .box 26 [.p false (iI a0.f0.f0.f0), .p false (iI a0.f0.f0.f1), .p false (.sc (.string a0.f0.f0.f2)), .p false (iI a0.f0.f1), .p false (iI a0.f0.f2), .p false (iI a0.f0.f3), .p false (iI a0.f0.f4)]), (1472, .row 3 1 y7.length (fun j => (eI .i64) (y7.getD j 0)) true)]
def impl_YardNums.l0 : Nat → S35 → List Int → Int → Option (List Int)
 | 0, _, _, _ => none
 | kq + 1, a0, v5, v6 => if v6 < (a0.f0.f0.f2.size : Int) then (if 0 ≤ v6 then (if (v5.length + 1) * 8 ≤ 140737488355328 then (impl_YardNums.l0 kq a0 (v5 ++ [(w64 (bt a0.f0.f0.f2 v6))]) (w64 (v6 + 1))) else none) else none) else (some v5)
def impl_YardNums.h1T (a0 : S35) (v15 : Int) (v14 : List Int) : List (Nat × AV) := [(1, .ptr 64 0), (4, .t (.c (.h 1472))), (56, .t (.c (.p false (R 4 e51 z51 a0.f1)))), (57, .t (.c (.p true (.sc (.int .i64 (a0.f1.length : Int)))))), (58, .t (.c (.p true (iI v15))))]
def impl_YardNums.h1H (a0 : S35) (v15 : Int) (v14 : List Int) : List (Nat × Content) := [(64, .box 35 [.p false (iI a0.f0.f0.f0), .p false (iI a0.f0.f0.f1), .p false (.sc (.string a0.f0.f0.f2)), .p false (iI a0.f0.f1), .p false (iI a0.f0.f2), .p false (iI a0.f0.f3), .p false (iI a0.f0.f4), .p false (R 4 e51 z51 a0.f1), .p false (iI a0.f2.f0), .p false (iI a0.f2.f1), .p false (R 1 (eI .i64) 0 a0.f2.f2), .p false (iI a0.f3), .p false (.sc (.bool a0.f4)), .p false (iI a0.f5.f0), .p false (iI a0.f5.f1), .p false (R 1 e53 z53 a0.f5.f2), .p false (R 3 e55 z55 a0.f6), .p false (R 1 (eI .i64) 0 a0.f7)]), (1472, .row 3 1 v14.length (fun j => (eI .i64) (v14.getD j 0)) true)]
def impl_YardNums.x1T (a0 : S35) (y17 : (List Int)) : List (Nat × AV) := [(1, .ptr 64 0), (4, .t (.c (.h 1472)))]
def impl_YardNums.x1H (a0 : S35) (y17 : (List Int)) : List (Nat × Content) := [(64, .box 35 [.p false (iI a0.f0.f0.f0), .p false (iI a0.f0.f0.f1), .p false (.sc (.string a0.f0.f0.f2)), .p false (iI a0.f0.f1), .p false (iI a0.f0.f2), .p false (iI a0.f0.f3), .p false (iI a0.f0.f4), .p false (R 4 e51 z51 a0.f1), .p false (iI a0.f2.f0), .p false (iI a0.f2.f1), .p false (R 1 (eI .i64) 0 a0.f2.f2), .p false (iI a0.f3), .p false (.sc (.bool a0.f4)), .p false (iI a0.f5.f0), .p false (iI a0.f5.f1), .p false (R 1 e53 z53 a0.f5.f2), .p false (R 3 e55 z55 a0.f6), .p false (R 1 (eI .i64) 0 a0.f7)]), (1472, .row 3 1 y17.length (fun j => (eI .i64) (y17.getD j 0)) true)]
def impl_YardNums.l1 : Nat → S35 → List Int → Int → Option (List Int)
 | 0, _, _, _ => none
 | kq + 1, a0, v14, v15 => if v15 < (a0.f1.length : Int) then (if 0 ≤ v15 then ((impl_flag.f ((rdD z51 a0.f1 v15).f3)).bind fun t16 => if (v14.length + 4) * 8 ≤ 140737488355328 then (impl_YardNums.l1 kq a0 (v14 ++ [(rdD z51 a0.f1 v15).f0, (rdD z51 a0.f1 v15).f1, (rdD z51 a0.f1 v15).f2, t16]) (w64 (v15 + 1))) else none) else none) else (some v14)
def impl_YardNums.h2T (a0 : S35) (v23 : Int) (v22 : List Int) : List (Nat × AV) := [(1, .ptr 64 0), (4, .t (.c (.h 1472))), (99, .t (.c (.p false (R 1 e53 z53 a0.f5.f2)))), (100, .t (.c (.p true (.sc (.int .i64 (a0.f5.f2.length : Int)))))), (101, .t (.c (.p true (iI v23))))]
def impl_YardNums.h2H (a0 : S35) (v23 : Int) (v22 : List Int) : List (Nat × Content) := [(64, .box 35 [.p false (iI a0.f0.f0.f0), .p false (iI a0.f0.f0.f1), .p false (.sc (.string a0.f0.f0.f2)), .p false (iI a0.f0.f1), .p false (iI a0.f0.f2), .p false (iI a0.f0.f3), .p false (iI a0.f0.f4), .p false (R 4 e51 z51 a0.f1), .p false (iI a0.f2.f0), .p false (iI a0.f2.f1), .p false (R 1 (eI .i64) 0 a0.f2.f2), .p false (iI a0.f3), .p false (.sc (.bool a0.f4)), .p false (iI a0.f5.f0), .p false (iI a0.f5.f1), .p false (R 1 e53 z53 a0.f5.f2), .p false (R 3 e55 z55 a0.f6), .p false (R 1 (eI .i64) 0 a0.f7)]), (1472, .row 3 1 v22.length (fun j => (eI .i64) (v22.getD j 0)) true)]
def impl_YardNums.x2T (a0 : S35) (y24 : (List Int)) : List (Nat × AV) := [(1, .ptr 64 0), (4, .t (.c (.h 1472)))]
def impl_YardNums.x2H (a0 : S35) (y24 : (List Int)) : List (Nat × Content) := [(64, .box 35 [.p false (iI a0.f0.f0.f0), .p false (iI a0.f0.f0.f1), .p false (.sc (.string a0.f0.f0.f2)), .p false (iI a0.f0.f1), .p false (iI a0.f0.f2), .p false (iI a0.f0.f3), .p false (iI a0.f0.f4), .p false (R 4 e51 z51 a0.f1), .p false (iI a0.f2.f0), .p false (iI a0.f2.f1), .p false (R 1 (eI .i64) 0 a0.f2.f2), .p false (iI a0.f3), .p false (.sc (.bool a0.f4)), .p false (iI a0.f5.f0), .p false (iI a0.f5.f1), .p false (R 1 e53 z53 a0.f5.f2), .p false (R 3 e55 z55 a0.f6), .p false (R 1 (eI .i64) 0 a0.f7)]), (1472, .row 3 1 y24.length (fun j => (eI .i64) (y24.getD j 0)) true)]
def impl_YardNums.l2 : Nat → S35 → List Int → Int → Option (List Int)
 | 0, _, _, _ => none
 | kq + 1, a0, v22, v23 => if v23 < (a0.f5.f2.length : Int) then (if 0 ≤ v23 then (if (v22.length + ((rdD z53 a0.f5.f2 v23).f0).length) * 8 ≤ 140737488355328 then (impl_YardNums.l2 kq a0 (v22 ++ (rdD z53 a0.f5.f2 v23).f0) (w64 (v23 + 1))) else none) else none) else (some v22)
def impl_YardNums.h3T (a0 : S35) (v29 : Int) (v28 : List Int) : List (Nat × AV) := [(1, .ptr 64 0), (4, .t (.c (.h 1472))), (111, .t (.c (.p false (R 3 e55 z55 a0.f6)))), (112, .t (.c (.p true (.sc (.int .i64 (a0.f6.length : Int)))))), (113, .t (.c (.p true (iI v29))))]
def impl_YardNums.h3H (a0 : S35) (v29 : Int) (v28 : List Int) : List (Nat × Content) := [(64, .box 35 [.p false (iI a0.f0.f0.f0), .p false (iI a0.f0.f0.f1), .p false (.sc (.string a0.f0.f0.f2)), .p false (iI a0.f0.f1), .p false (iI a0.f0.f2), .p false (iI a0.f0.f3), .p false (iI a0.f0.f4), .p false (R 4 e51 z51 a0.f1), .p false (iI a0.f2.f0), .p false (iI a0.f2.f1), .p false (R 1 (eI .i64) 0 a0.f2.f2), .p false (iI a0.f3), .p false (.sc (.bool a0.f4)), .p false (iI a0.f5.f0), .p false (iI a0.f5.f1), .p false (R 1 e53 z53 a0.f5.f2), .p false (R 3 e55 z55 a0.f6), .p false (R 1 (eI .i64) 0 a0.f7)]), (1472, .row 3 1 v28.length (fun j => (eI .i64) (v28.getD j 0)) true)]
def impl_YardNums.l3 : Nat → S35 → List Int → Int → Option (List Int)
 | 0, _, _, _ => none
 | kq + 1, a0, v28, v29 => if v29 < (a0.f6.length : Int) then (if 0 ≤ v29 then ((impl_flag.f ((rdD z55 a0.f6 v29).f2)).bind fun t30 => if (v28.length + 3) * 8 ≤ 140737488355328 then (impl_YardNums.l3 kq a0 (v28 ++ [(rdD z55 a0.f6 v29).f0, (rdD z55 a0.f6 v29).f1, t30]) (w64 (v29 + 1))) else none) else none) else (if (v28.length + 1) * 8 ≤ 140737488355328 then (if ((v28 ++ [(a0.f7.length : Int)]).length + a0.f7.length) * 8 ≤ 140737488355328 then (some ((v28 ++ [(a0.f7.length : Int)]) ++ a0.f7)) else none) else none)
def impl_YardNums.f (k : Nat) (a0 : S35) : Option (List Int) := (impl_YardOk.f k a0).bind fun t1 => if t1 = true then ((impl_YardNums.l0 k a0 ([a0.f0.f0.f0, a0.f0.f0.f1]) 0).bind fun y7 => (if (y7.length + 5) * 8 ≤ 140737488355328 then ((impl_YardNums.l1 k a0 (y7 ++ [a0.f0.f1, a0.f0.f2, a0.f0.f3, a0.f0.f4, (a0.f1.length : Int)]) 0).bind fun y17 => (if (y17.length + a0.f2.f2.length) * 8 ≤ 140737488355328 then ((impl_flag.f a0.f4).bind fun t18 => if ((y17 ++ a0.f2.f2).length + 5) * 8 ≤ 140737488355328 then ((impl_YardNums.l2 k a0 ((y17 ++ a0.f2.f2) ++ [a0.f3, t18, a0.f5.f0, a0.f5.f1, (a0.f5.f2.length : Int)]) 0).bind fun y24 => (impl_YardNums.l3 k a0 y24 0)) else none) else none)) else none)) else (some ([] : List Int))
theorem impl_YardNums.go : Callable prog 18 := ⟨_, func18, by kernel_rfl, rfl⟩
theorem impl_YardNums.ok (k : Nat) (a0 : S35) (r : (List Int)) (h : impl_YardNums.f k a0 = some r) : VCalls prog 18 [.agg (e35 a0)] [.c (.own 3 1 r.length (fun j => (eI .i64) (r.getD j 0)))] := by
 unfold impl_YardNums.f at h
 refine VCalls.of (fn := f18) (N := 137) func18 rfl rfl (fun w0 => ?_)
 obtain ⟨t1, g1, h⟩ := bindN h
 let C1 := mkCon (impl_YardOk.ok k a0 t1 g1) impl_YardOk.go
 by_cases c2 : t1 = true
 ·replace h := ip c2 h
  have H0 : ∀ (kq : Nat) (v5 : List Int) (v6 : Int) (x : (List Int)), impl_YardNums.l0 kq a0 v5 v6 = some x → AG prog 18 137 [.c (.own 3 1 r.length (fun j => (eI .i64) (r.getD j 0)))] w0 (exitStk (codeOf f18) 0) (mkFS (impl_YardNums.x0T a0 x) (impl_YardNums.x0H a0 x)) → AG prog 18 137 [.c (.own 3 1 r.length (fun j => (eI .i64) (r.getD j 0)))] w0 (headStk (codeOf f18) 0) (mkFS (impl_YardNums.h0T v6 a0 v5) (impl_YardNums.h0H v6 a0 v5)) := by
   intro kq
   induction kq with
   | zero => intro v5 v6 x h hx; cases h
   | succ kq ih =>
     intro v5 v6 x h hx
     rw [impl_YardNums.l0] at h
     by_cases c11 : v6 < (a0.f0.f0.f2.size : Int)
     ·replace h := ip c11 h
      obtain ⟨c12, h⟩ := ifN h
      obtain ⟨c13, h⟩ := ifN h
      exact hd func18 [.b true, rowe 39 (eI .i64) 0 ([(w64 (bt a0.f0.f0.f2 v6))]), .aft 40, orow 1472 (eI .i64) 0 (v5 ++ [(w64 (bt a0.f0.f0.f2 v6))]), .fin] (oT c11 (o1 c12 (o1 c11 (o1 (GE.lit 1 (eI .i64) 0 [(w64 (bt a0.f0.f0.f2 v6))] (by intro x; rfl)) (o1 c13 (o1 (GE.app (e := (eI .i64)) (d := 0) v5 ([(w64 (bt a0.f0.f0.f2 v6))]) rfl (fun _ _ => CE.refl _) rfl) on)))))) (ih (v5 ++ [(w64 (bt a0.f0.f0.f2 v6))]) (w64 (v6 + 1)) _ h hx)
     ·replace h := iq c11 h
      cases h
      exact st func18 [.b false, .fin] (oF c11 on) hx
  obtain ⟨y7, g59, h⟩ := bindN h
  refine hd func18 [.call C1, .b false, rowe 23 (eI .i64) 0 ([a0.f0.f0.f0, a0.f0.f0.f1]), .fin] (oc C1 (o1 (bnf c2) (o1 (GE.lit 1 (eI .i64) 0 [a0.f0.f0.f0, a0.f0.f0.f1] (by intro x; rfl)) on))) (H0 k ([a0.f0.f0.f0, a0.f0.f0.f1]) 0 _ g59 ?_)
  obtain ⟨c14, h⟩ := ifN h
  have H1 : ∀ (kq : Nat) (v14 : List Int) (v15 : Int) (x : (List Int)), impl_YardNums.l1 kq a0 v14 v15 = some x → AG prog 18 137 [.c (.own 3 1 r.length (fun j => (eI .i64) (r.getD j 0)))] w0 (exitStk (codeOf f18) 1) (mkFS (impl_YardNums.x1T a0 x) (impl_YardNums.x1H a0 x)) → AG prog 18 137 [.c (.own 3 1 r.length (fun j => (eI .i64) (r.getD j 0)))] w0 (headStk (codeOf f18) 1) (mkFS (impl_YardNums.h1T a0 v15 v14) (impl_YardNums.h1H a0 v15 v14)) := by
   intro kq
   induction kq with
   | zero => intro v14 v15 x h hx; cases h
   | succ kq ih =>
     intro v14 v15 x h hx
     rw [impl_YardNums.l1] at h
     by_cases c26 : v15 < (a0.f1.length : Int)
     ·replace h := ip c26 h
      obtain ⟨c27, h⟩ := ifN h
      obtain ⟨t16, g28, h⟩ := bindN h
      let C28 := mkCon (impl_flag.ok ((rdD z51 a0.f1 v15).f3) t16 g28) impl_flag.go
      obtain ⟨c29, h⟩ := ifN h
      exact hd func18 [.b true, .call C28, rowe 72 (eI .i64) 0 ([(rdD z51 a0.f1 v15).f0, (rdD z51 a0.f1 v15).f1, (rdD z51 a0.f1 v15).f2, t16]), .aft 73, orow 1472 (eI .i64) 0 (v14 ++ [(rdD z51 a0.f1 v15).f0, (rdD z51 a0.f1 v15).f1, (rdD z51 a0.f1 v15).f2, t16]), .fin] (oT c26 (o1 c27 (o1 c26 (oc C28 (o1 (GE.lit 1 (eI .i64) 0 [(rdD z51 a0.f1 v15).f0, (rdD z51 a0.f1 v15).f1, (rdD z51 a0.f1 v15).f2, t16] (by intro x; rfl)) (o1 c29 (o1 (GE.app (e := (eI .i64)) (d := 0) v14 ([(rdD z51 a0.f1 v15).f0, (rdD z51 a0.f1 v15).f1, (rdD z51 a0.f1 v15).f2, t16]) rfl (fun _ _ => CE.refl _) rfl) on))))))) (ih (v14 ++ [(rdD z51 a0.f1 v15).f0, (rdD z51 a0.f1 v15).f1, (rdD z51 a0.f1 v15).f2, t16]) (w64 (v15 + 1)) _ h hx)
     ·replace h := iq c26 h
      cases h
      exact st func18 [.b false, .fin] (oF c26 on) hx
  obtain ⟨y17, g58, h⟩ := bindN h
  refine hd func18 [rowe 53 (eI .i64) 0 ([a0.f0.f1, a0.f0.f2, a0.f0.f3, a0.f0.f4, (a0.f1.length : Int)]), .aft 54, orow 1472 (eI .i64) 0 (y7 ++ [a0.f0.f1, a0.f0.f2, a0.f0.f3, a0.f0.f4, (a0.f1.length : Int)]), .fin] (o1 (GE.lit 1 (eI .i64) 0 [a0.f0.f1, a0.f0.f2, a0.f0.f3, a0.f0.f4, (a0.f1.length : Int)] (by intro x; rfl)) (o1 c14 (o1 (GE.app (e := (eI .i64)) (d := 0) y7 ([a0.f0.f1, a0.f0.f2, a0.f0.f3, a0.f0.f4, (a0.f1.length : Int)]) rfl (fun _ _ => CE.refl _) rfl) on))) (H1 k (y7 ++ [a0.f0.f1, a0.f0.f2, a0.f0.f3, a0.f0.f4, (a0.f1.length : Int)]) 0 _ g58 ?_)
  obtain ⟨c30, h⟩ := ifN h
  obtain ⟨t18, g31, h⟩ := bindN h
  let C31 := mkCon (impl_flag.ok a0.f4 t18 g31) impl_flag.go
  obtain ⟨c32, h⟩ := ifN h
  have H2 : ∀ (kq : Nat) (v22 : List Int) (v23 : Int) (x : (List Int)), impl_YardNums.l2 kq a0 v22 v23 = some x → AG prog 18 137 [.c (.own 3 1 r.length (fun j => (eI .i64) (r.getD j 0)))] w0 (exitStk (codeOf f18) 2) (mkFS (impl_YardNums.x2T a0 x) (impl_YardNums.x2H a0 x)) → AG prog 18 137 [.c (.own 3 1 r.length (fun j => (eI .i64) (r.getD j 0)))] w0 (headStk (codeOf f18) 2) (mkFS (impl_YardNums.h2T a0 v23 v22) (impl_YardNums.h2H a0 v23 v22)) := by
   intro kq
   induction kq with
   | zero => intro v22 v23 x h hx; cases h
   | succ kq ih =>
     intro v22 v23 x h hx
     rw [impl_YardNums.l2] at h
     by_cases c41 : v23 < (a0.f5.f2.length : Int)
     ·replace h := ip c41 h
      obtain ⟨c42, h⟩ := ifN h
      obtain ⟨c43, h⟩ := ifN h
      exact hd func18 [.b true, .aft 108, orow 1472 (eI .i64) 0 (v22 ++ (rdD z53 a0.f5.f2 v23).f0), .reg 20, .flat 1472, .fin] (oT c41 (o1 c42 (o1 c41 (o1 c43 (o1 (GE.app (e := (eI .i64)) (d := 0) v22 ((rdD z53 a0.f5.f2 v23).f0) rfl (fun _ _ => CE.refl _) rfl) (o1 (SC.of (e := (eI .i64)) (d := 0) (v22 ++ (rdD z53 a0.f5.f2 v23).f0) (by intro x; rfl)) on)))))) (ih (v22 ++ (rdD z53 a0.f5.f2 v23).f0) (w64 (v23 + 1)) _ h hx)
     ·replace h := iq c41 h
      cases h
      exact st func18 [.b false, .fin] (oF c41 on) hx
  obtain ⟨y24, g57, h⟩ := bindN h
  refine hd func18 [.aft 79, orow 1472 (eI .i64) 0 (y17 ++ a0.f2.f2), .call C31, rowe 95 (eI .i64) 0 ([a0.f3, t18, a0.f5.f0, a0.f5.f1, (a0.f5.f2.length : Int)]), .aft 96, orow 1472 (eI .i64) 0 ((y17 ++ a0.f2.f2) ++ [a0.f3, t18, a0.f5.f0, a0.f5.f1, (a0.f5.f2.length : Int)]), .reg 16, .flat 1472, .fin] (o1 c30 (o1 (GE.app (e := (eI .i64)) (d := 0) y17 a0.f2.f2 rfl (fun _ _ => CE.refl _) rfl) (oc C31 (o1 (GE.lit 1 (eI .i64) 0 [a0.f3, t18, a0.f5.f0, a0.f5.f1, (a0.f5.f2.length : Int)] (by intro x; rfl)) (o1 c32 (o1 (GE.app (e := (eI .i64)) (d := 0) (y17 ++ a0.f2.f2) ([a0.f3, t18, a0.f5.f0, a0.f5.f1, (a0.f5.f2.length : Int)]) rfl (fun _ _ => CE.refl _) rfl) (o1 (SC.of (e := (eI .i64)) (d := 0) ((y17 ++ a0.f2.f2) ++ [a0.f3, t18, a0.f5.f0, a0.f5.f1, (a0.f5.f2.length : Int)]) (by intro x; rfl)) on))))))) (H2 k ((y17 ++ a0.f2.f2) ++ [a0.f3, t18, a0.f5.f0, a0.f5.f1, (a0.f5.f2.length : Int)]) 0 _ g57 ?_)
  have H3 : ∀ (kq : Nat) (v28 : List Int) (v29 : Int), impl_YardNums.l3 kq a0 v28 v29 = some r → AG prog 18 137 [.c (.own 3 1 r.length (fun j => (eI .i64) (r.getD j 0)))] w0 (headStk (codeOf f18) 3) (mkFS (impl_YardNums.h3T a0 v29 v28) (impl_YardNums.h3H a0 v29 v28)) := by
   intro kq
   induction kq with
   | zero => intro v28 v29 h; cases h
   | succ kq ih =>
     intro v28 v29 h
     rw [impl_YardNums.l3] at h
     by_cases c51 : v29 < (a0.f6.length : Int)
     ·replace h := ip c51 h
      obtain ⟨c52, h⟩ := ifN h
      obtain ⟨t30, g53, h⟩ := bindN h
      let C53 := mkCon (impl_flag.ok ((rdD z55 a0.f6 v29).f2) t30 g53) impl_flag.go
      obtain ⟨c54, h⟩ := ifN h
      exact hd func18 [.b true, .call C53, rowe 125 (eI .i64) 0 ([(rdD z55 a0.f6 v29).f0, (rdD z55 a0.f6 v29).f1, t30]), .aft 126, orow 1472 (eI .i64) 0 (v28 ++ [(rdD z55 a0.f6 v29).f0, (rdD z55 a0.f6 v29).f1, t30]), .fin] (oT c51 (o1 c52 (o1 c51 (oc C53 (o1 (GE.lit 1 (eI .i64) 0 [(rdD z55 a0.f6 v29).f0, (rdD z55 a0.f6 v29).f1, t30] (by intro x; rfl)) (o1 c54 (o1 (GE.app (e := (eI .i64)) (d := 0) v28 ([(rdD z55 a0.f6 v29).f0, (rdD z55 a0.f6 v29).f1, t30]) rfl (fun _ _ => CE.refl _) rfl) on))))))) (ih (v28 ++ [(rdD z55 a0.f6 v29).f0, (rdD z55 a0.f6 v29).f1, t30]) (w64 (v29 + 1)) h)
     ·replace h := iq c51 h
      obtain ⟨c55, h⟩ := ifN h
      obtain ⟨c56, h⟩ := ifN h
      cases h
      exact rt func18 [.b false, .fin, rowe 132 (eI .i64) 0 ([(a0.f7.length : Int)]), .aft 133, orow 1472 (eI .i64) 0 (v28 ++ [(a0.f7.length : Int)]), .aft 136, orow 1472 (eI .i64) 0 ((v28 ++ [(a0.f7.length : Int)]) ++ a0.f7), .fin, .flat 1472] (oF c51 (o1 (GE.lit 1 (eI .i64) 0 [(a0.f7.length : Int)] (by intro x; rfl)) (o1 c55 (o1 (GE.app (e := (eI .i64)) (d := 0) v28 ([(a0.f7.length : Int)]) rfl (fun _ _ => CE.refl _) rfl) (o1 c56 (o1 (GE.app (e := (eI .i64)) (d := 0) (v28 ++ [(a0.f7.length : Int)]) a0.f7 rfl (fun _ _ => CE.refl _) rfl) (o1 (SC.of (e := (eI .i64)) (d := 0) ((v28 ++ [(a0.f7.length : Int)]) ++ a0.f7) (by intro x; rfl)) on)))))))
  exact hd func18 [.fin] on (H3 k y24 0 h)
 ·replace h := iq c2 h
  cases h
  exact rt func18 [.call C1, .b true, .fin, .nil 2 384128 3 1, orow 384128 (eI .i64) 0 ([] : List Int)] (oc C1 (oN c2 (o1 (GE.nil (eI .i64) 0) on)))
def slices_Equal_int_int.h0T (a0 : List Int) (a1 : List Int) (v1 : Int) : List (Nat × AV) := [(0, .t (.c (.p false (R 1 (eI .i64) 0 a0)))), (1, .t (.c (.p false (R 1 (eI .i64) 0 a1)))), (12, .t (.c (.p true (.sc (.int .i64 (a0.length : Int)))))), (13, .t (.c (.p true (iI v1))))]
def slices_Equal_int_int.h0H (a0 : List Int) (a1 : List Int) (v1 : Int) : List (Nat × Content) := []
def slices_Equal_int_int.l0 : Nat → List Int → List Int → Int → Option Bool
 | 0, _, _, _ => none
 | kq + 1, a0, a1, v1 => if v1 < (a0.length : Int) then (if 0 ≤ v1 then (if v1 < (a1.length : Int) then (if (rdD 0 a0 v1) = (rdD 0 a1 v1) then (slices_Equal_int_int.l0 kq a0 a1 (w64 (v1 + 1))) else (some false)) else none) else none) else (some true)
def slices_Equal_int_int.f (k : Nat) (a0 : List Int) (a1 : List Int) : Option Bool := if (a0.length : Int) = (a1.length : Int) then (slices_Equal_int_int.l0 k a0 a1 0) else (some false)
theorem slices_Equal_int_int.go : Callable prog 17 := ⟨_, func17, by kernel_rfl, rfl⟩
theorem slices_Equal_int_int.ok (k : Nat) (a0 : List Int) (a1 : List Int) (r : Bool) (h : slices_Equal_int_int.f k a0 a1 = some r) : VCalls prog 17 [.c (R 1 (eI .i64) 0 a0), .c (R 1 (eI .i64) 0 a1)] [.c (.p (.sc (.bool r)))] := by
 unfold slices_Equal_int_int.f at h
 refine VCalls.of (fn := f17) (N := 26) func17 rfl rfl (fun w0 => ?_)
 by_cases c1 : (a0.length : Int) = (a1.length : Int)
 ·replace h := ip c1 h
  have H0 : ∀ (kq : Nat) (v1 : Int), slices_Equal_int_int.l0 kq a0 a1 v1 = some r → AG prog 17 26 [.c (.p (.sc (.bool r)))] w0 (headStk (codeOf f17) 0) (mkFS (slices_Equal_int_int.h0T a0 a1 v1) (slices_Equal_int_int.h0H a0 a1 v1)) := by
   intro kq
   induction kq with
   | zero => intro v1 h; cases h
   | succ kq ih =>
     intro v1 h
     rw [slices_Equal_int_int.l0] at h
     by_cases c5 : v1 < (a0.length : Int)
     ·replace h := ip c5 h
      obtain ⟨c6, h⟩ := ifN h
      obtain ⟨c7, h⟩ := ifN h
      by_cases c8 : (rdD 0 a0 v1) = (rdD 0 a1 v1)
      ·replace h := ip c8 h
       exact hd func17 [.b true, .b false, .fin] (oT c5 (o1 c6 (o1 c5 (o1 c6 (o1 c7 (o1 (bnf (decide_eq_true c8)) on)))))) (ih (w64 (v1 + 1)) h)
      ·replace h := iq c8 h
       cases h
       exact rt func17 [.b true, .b true, .fin] (oT c5 (o1 c6 (o1 c5 (o1 c6 (o1 c7 (o1 (bnt (decide_eq_false c8)) on))))))
     ·replace h := iq c5 h
      cases h
      exact rt func17 [.b false, .fin, .fin] (oF c5 on)
  exact hd func17 [.b false, .fin] (o1 (bnf (decide_eq_true c1)) on) (H0 k 0 h)
 ·replace h := iq c1 h
  cases h
  exact rt func17 [.b true, .fin] (o1 (bnt (decide_eq_false c1)) on)
def impl_YardIn.f (k : Nat) (a0 : List Int) : Option (S35 × Bool) := (impl_numbers_yardIn.f k a0 0 false).bind fun t1 => if t1.2.2 = true then (some ((⟨(⟨(⟨0, 0, (⟨#[]⟩ : ByteArray)⟩ : S24), 0, 0, 0, 0⟩ : S26), ([] : List S51), (⟨0, 0, ([] : List Int)⟩ : S29), 0, false, (⟨0, 0, ([] : List S53)⟩ : S32), ([] : List S55), ([] : List Int)⟩ : S35), false)) else ((impl_YardOk.f k (⟨(⟨(⟨t1.1.f0.f0.f0, t1.1.f0.f0.f1, t1.1.f0.f0.f2⟩ : S24), t1.1.f0.f1, t1.1.f0.f2, t1.1.f0.f3, t1.1.f0.f4⟩ : S26), t1.1.f1, (⟨t1.1.f2.f0, t1.1.f2.f1, t1.1.f2.f2⟩ : S29), t1.1.f3, t1.1.f4, (⟨t1.1.f5.f0, t1.1.f5.f1, t1.1.f5.f2⟩ : S32), t1.1.f6, t1.1.f7⟩ : S35)).bind fun t2 => if t2 = true then ((impl_YardNums.f k (⟨(⟨(⟨t1.1.f0.f0.f0, t1.1.f0.f0.f1, t1.1.f0.f0.f2⟩ : S24), t1.1.f0.f1, t1.1.f0.f2, t1.1.f0.f3, t1.1.f0.f4⟩ : S26), t1.1.f1, (⟨t1.1.f2.f0, t1.1.f2.f1, t1.1.f2.f2⟩ : S29), t1.1.f3, t1.1.f4, (⟨t1.1.f5.f0, t1.1.f5.f1, t1.1.f5.f2⟩ : S32), t1.1.f6, t1.1.f7⟩ : S35)).bind fun t3 => (slices_Equal_int_int.f k t3 (List.drop 0 a0)).bind fun t4 => if t4 = true then (some ((⟨(⟨(⟨t1.1.f0.f0.f0, t1.1.f0.f0.f1, t1.1.f0.f0.f2⟩ : S24), t1.1.f0.f1, t1.1.f0.f2, t1.1.f0.f3, t1.1.f0.f4⟩ : S26), t1.1.f1, (⟨t1.1.f2.f0, t1.1.f2.f1, t1.1.f2.f2⟩ : S29), t1.1.f3, t1.1.f4, (⟨t1.1.f5.f0, t1.1.f5.f1, t1.1.f5.f2⟩ : S32), t1.1.f6, t1.1.f7⟩ : S35), true)) else (some ((⟨(⟨(⟨0, 0, (⟨#[]⟩ : ByteArray)⟩ : S24), 0, 0, 0, 0⟩ : S26), ([] : List S51), (⟨0, 0, ([] : List Int)⟩ : S29), 0, false, (⟨0, 0, ([] : List S53)⟩ : S32), ([] : List S55), ([] : List Int)⟩ : S35), false))) else (some ((⟨(⟨(⟨0, 0, (⟨#[]⟩ : ByteArray)⟩ : S24), 0, 0, 0, 0⟩ : S26), ([] : List S51), (⟨0, 0, ([] : List Int)⟩ : S29), 0, false, (⟨0, 0, ([] : List S53)⟩ : S32), ([] : List S55), ([] : List Int)⟩ : S35), false)))
theorem impl_YardIn.go : Callable prog 6 := ⟨_, func6, by kernel_rfl, rfl⟩
theorem impl_YardIn.ok (k : Nat) (a0 : List Int) (r : S35 × Bool) (h : impl_YardIn.f k a0 = some r) : VCalls prog 6 [.c (R 1 (eI .i64) 0 a0)] [.agg (rn35 r.1), .c (.p (.sc (.bool r.2)))] := by
 unfold impl_YardIn.f at h
 refine VCalls.name (fun u0 => ?_)
 refine VCalls.of (fn := f6) (N := 29) func6 rfl rfl (fun w0 => ?_)
 obtain ⟨t1, g1, h⟩ := bindN h
 let C1 := impl_numbers_yardIn.con u0 k a0 0 false t1 g1
 by_cases c2 : t1.2.2 = true
 ·replace h := ip c2 h
  cases h
  exact rt func6 [.reg 0, .cast 0 (.known (cutH u0 0) u0 (R 1 (eI .i64) 0 a0)), .reg 2, .cast 0 (R 1 (eI .i64) 0 (List.drop 0 a0)), .callQ C1, .dec 15 true, .b true, .fin, .nilB 128 7 448135 51 4, orow 448135 e51 z51 ([] : List S51), .nilB 128 10 448138 3 1, orow 448138 (eI .i64) 0 ([] : List Int), .nilB 128 15 448143 53 1, .toN 448143 3, nrow 448143 S53.f0 (Value.int .i64) z53 0 ([] : List S53), .nilB 128 16 448144 55 3, orow 448144 e55 z55 ([] : List S55), .nilB 128 17 448145 3 1, orow 448145 (eI .i64) 0 ([] : List Int)] (o1 (VE.cut0 (e := (eI .i64)) (d := 0) u0 a0) (o1 (VE.cutk (e := (eI .i64)) (d := 0) u0 a0 0) (oa (scq_ C1) (o1 c2 (oR (o1 (GE.nil e51 z51) (o1 (GE.nil (eI .i64) 0) (o1 (nilG.zero (fun _ => [])) (o1 (GEN.nil S53.f0 (Value.int .i64) z53 0) (o1 (GE.nil e55 z55) (o1 (GE.nil (eI .i64) 0) on)))))))))))
 ·replace h := iq c2 h
  obtain ⟨t2, g3, h⟩ := bindN h
  let C3 := mkCon (impl_YardOk.ok k (⟨(⟨(⟨t1.1.f0.f0.f0, t1.1.f0.f0.f1, t1.1.f0.f0.f2⟩ : S24), t1.1.f0.f1, t1.1.f0.f2, t1.1.f0.f3, t1.1.f0.f4⟩ : S26), t1.1.f1, (⟨t1.1.f2.f0, t1.1.f2.f1, t1.1.f2.f2⟩ : S29), t1.1.f3, t1.1.f4, (⟨t1.1.f5.f0, t1.1.f5.f1, t1.1.f5.f2⟩ : S32), t1.1.f6, t1.1.f7⟩ : S35) t2 g3) impl_YardOk.go
  by_cases c4 : t2 = true
  ·replace h := ip c4 h
   obtain ⟨t3, g5, h⟩ := bindN h
   let C5 := mkCon (impl_YardNums.ok k (⟨(⟨(⟨t1.1.f0.f0.f0, t1.1.f0.f0.f1, t1.1.f0.f0.f2⟩ : S24), t1.1.f0.f1, t1.1.f0.f2, t1.1.f0.f3, t1.1.f0.f4⟩ : S26), t1.1.f1, (⟨t1.1.f2.f0, t1.1.f2.f1, t1.1.f2.f2⟩ : S29), t1.1.f3, t1.1.f4, (⟨t1.1.f5.f0, t1.1.f5.f1, t1.1.f5.f2⟩ : S32), t1.1.f6, t1.1.f7⟩ : S35) t3 g5) impl_YardNums.go
   obtain ⟨t4, g6, h⟩ := bindN h
   let C6 := mkCon (slices_Equal_int_int.ok k t3 (List.drop 0 a0) t4 g6) slices_Equal_int_int.go
   by_cases c7 : t4 = true
   ·replace h := ip c7 h
    cases h
    exact rt func6 [.reg 0, .cast 0 (.known (cutH u0 0) u0 (R 1 (eI .i64) 0 a0)), .reg 2, .cast 0 (R 1 (eI .i64) 0 (List.drop 0 a0)), .callQ C1, .dec 15 false, .call C3, .dec 20 false, .call C5, .call C6, .b false, .fin] (o1 (VE.cut0 (e := (eI .i64)) (d := 0) u0 a0) (o1 (VE.cutk (e := (eI .i64)) (d := 0) u0 a0 0) (oa (scq_ C1) (o1 (eqf c2) (oc C3 (o1 (bnf c4) (oc C5 (oc C6 (o1 (bnf c7) on)))))))))
   ·replace h := iq c7 h
    cases h
    exact rt func6 [.reg 0, .cast 0 (.known (cutH u0 0) u0 (R 1 (eI .i64) 0 a0)), .reg 2, .cast 0 (R 1 (eI .i64) 0 (List.drop 0 a0)), .callQ C1, .dec 15 false, .call C3, .dec 20 false, .call C5, .call C6, .b true, .fin, .nilB 128 7 448135 51 4, orow 448135 e51 z51 ([] : List S51), .nilB 128 10 448138 3 1, orow 448138 (eI .i64) 0 ([] : List Int), .nilB 128 15 448143 53 1, .toN 448143 3, nrow 448143 S53.f0 (Value.int .i64) z53 0 ([] : List S53), .nilB 128 16 448144 55 3, orow 448144 e55 z55 ([] : List S55), .nilB 128 17 448145 3 1, orow 448145 (eI .i64) 0 ([] : List Int)] (o1 (VE.cut0 (e := (eI .i64)) (d := 0) u0 a0) (o1 (VE.cutk (e := (eI .i64)) (d := 0) u0 a0 0) (oa (scq_ C1) (o1 (eqf c2) (oc C3 (o1 (bnf c4) (oc C5 (oc C6 (oN c7 (o1 (GE.nil e51 z51) (o1 (GE.nil (eI .i64) 0) (o1 (nilG.zero (fun _ => [])) (o1 (GEN.nil S53.f0 (Value.int .i64) z53 0) (o1 (GE.nil e55 z55) (o1 (GE.nil (eI .i64) 0) on)))))))))))))))
  ·replace h := iq c4 h
   cases h
   exact rt func6 [.reg 0, .cast 0 (.known (cutH u0 0) u0 (R 1 (eI .i64) 0 a0)), .reg 2, .cast 0 (R 1 (eI .i64) 0 (List.drop 0 a0)), .callQ C1, .dec 15 false, .call C3, .dec 20 true, .b true, .fin, .nilB 128 7 448135 51 4, orow 448135 e51 z51 ([] : List S51), .nilB 128 10 448138 3 1, orow 448138 (eI .i64) 0 ([] : List Int), .nilB 128 15 448143 53 1, .toN 448143 3, nrow 448143 S53.f0 (Value.int .i64) z53 0 ([] : List S53), .nilB 128 16 448144 55 3, orow 448144 e55 z55 ([] : List S55), .nilB 128 17 448145 3 1, orow 448145 (eI .i64) 0 ([] : List Int)] (o1 (VE.cut0 (e := (eI .i64)) (d := 0) u0 a0) (o1 (VE.cutk (e := (eI .i64)) (d := 0) u0 a0 0) (oa (scq_ C1) (o1 (eqf c2) (oc C3 (oN c4 (oR (o1 (GE.nil e51 z51) (o1 (GE.nil (eI .i64) 0) (o1 (nilG.zero (fun _ => [])) (o1 (GEN.nil S53.f0 (Value.int .i64) z53 0) (o1 (GE.nil e55 z55) (o1 (GE.nil (eI .i64) 0) on)))))))))))))
def laws_toIntS.h0T (a0 : List Int) (v3 : Int) (v2 : List Int) : List (Nat × AV) := [(0, .t (.c (.p false (R 1 (eI .i64) 0 a0)))), (3, .t (.c (.h 448))), (4, .t (.c (.p true (iI v3))))]
def laws_toIntS.h0H (a0 : List Int) (v3 : Int) (v2 : List Int) : List (Nat × Content) := [(448, .row 3 1 v2.length (fun j => (eI .i64) (v2.getD j 0)) true)]
def laws_toIntS.l0 : Nat → List Int → List Int → Int → Option (List Int)
 | 0, _, _, _ => none
 | kq + 1, a0, v2, v3 => if v3 < (a0.length : Int) then (if 0 ≤ v3 then (if v3 < (v2.length : Int) then (laws_toIntS.l0 kq a0 (v2.set v3.toNat (rdD 0 a0 v3)) (w64 (v3 + 1))) else none) else none) else (some v2)
def laws_toIntS.f (k : Nat) (a0 : List Int) : Option (List Int) := if 0 ≤ (a0.length : Int) then (if (a0.length : Int).toNat * 8 ≤ 140737488355328 then (laws_toIntS.l0 k a0 (List.replicate (a0.length : Int).toNat 0) 0) else none) else none
theorem laws_toIntS.go : Callable prog 5 := ⟨_, func5, by kernel_rfl, rfl⟩
theorem laws_toIntS.ok (k : Nat) (a0 : List Int) (r : (List Int)) (h : laws_toIntS.f k a0 = some r) : VCalls prog 5 [.c (R 1 (eI .i64) 0 a0)] [.c (.own 3 1 r.length (fun j => (eI .i64) (r.getD j 0)))] := by
 unfold laws_toIntS.f at h
 refine VCalls.of (fn := f5) (N := 22) func5 rfl rfl (fun w0 => ?_)
 obtain ⟨c1, h⟩ := ifN h
 obtain ⟨c2, h⟩ := ifN h
 have H0 : ∀ (kq : Nat) (v2 : List Int) (v3 : Int), laws_toIntS.l0 kq a0 v2 v3 = some r → AG prog 5 22 [.c (.own 3 1 r.length (fun j => (eI .i64) (r.getD j 0)))] w0 (headStk (codeOf f5) 0) (mkFS (laws_toIntS.h0T a0 v3 v2) (laws_toIntS.h0H a0 v3 v2)) := by
  intro kq
  induction kq with
  | zero => intro v2 v3 h; cases h
  | succ kq ih =>
    intro v2 v3 h
    rw [laws_toIntS.l0] at h
    by_cases c8 : v3 < (a0.length : Int)
    ·replace h := ip c8 h
     obtain ⟨c9, h⟩ := ifN h
     obtain ⟨c10, h⟩ := ifN h
     exact hd func5 [.b true, .aft 999999, orow 448 (eI .i64) 0 (v2.set v3.toNat (rdD 0 a0 v3)), .fin] (oT c8 (o1 c9 (o1 c8 (o1 c9 (o1 c10 (o1 (GE.set (e := (eI .i64)) (d := 0) v2 v3.toNat (rdD 0 a0 v3) (lt_toNat c9 c10) rfl) on)))))) (ih (v2.set v3.toNat (rdD 0 a0 v3)) (w64 (v3 + 1)) h)
    ·replace h := iq c8 h
     cases h
     exact rt func5 [.b false, .fin, .fin] (oF c8 on)
 exact hd func5 [rowe 7 (eI .i64) 0 (List.replicate (a0.length : Int).toNat 0), .fin] (o1 (rfl : (a0.length : Int) = (a0.length : Int)) (o1 c1 (o1 (mxl (b := 8) (by decide) c2) (o1 c2 (o1 (GE.rep (e := (eI .i64)) (d := 0) (a0.length : Int).toNat (CE.refl _)) on))))) (H0 k (List.replicate (a0.length : Int).toNat 0) 0 h)
def laws_eqGrid.f (a0 : S24) (a1 : S24) : Option Bool := if a0.f0 = a1.f0 then (if a0.f1 = a1.f1 then (if (a0.f2.toList == a1.f2.toList) = true then (some true) else (some false)) else (some false)) else (some false)
theorem laws_eqGrid.go : Callable prog 63 := ⟨_, func63, by kernel_rfl, rfl⟩
theorem laws_eqGrid.ok (a0 : S24) (a1 : S24) (r : Bool) (h : laws_eqGrid.f a0 a1 = some r) : VCalls prog 63 [.agg (e24 a0), .agg (e24 a1)] [.c (.p (.sc (.bool r)))] := by
 unfold laws_eqGrid.f at h
 refine VCalls.of (fn := f63) (N := 20) func63 rfl rfl (fun w0 => ?_)
 by_cases c1 : a0.f0 = a1.f0
 ·replace h := ip c1 h
  by_cases c2 : a0.f1 = a1.f1
  ·replace h := ip c2 h
   by_cases c3 : (a0.f2.toList == a1.f2.toList) = true
   ·replace h := ip c3 h
    cases h
    exact rt func63 [.b false, .b false, .b false, .fin] (o1 (bnf (decide_eq_true c1)) (o1 (bnf (decide_eq_true c2)) (o1 (bnf c3) on)))
   ·replace h := iq c3 h
    cases h
    exact rt func63 [.b false, .b false, .b true, .fin] (o1 (bnf (decide_eq_true c1)) (o1 (bnf (decide_eq_true c2)) (oN c3 on)))
  ·replace h := iq c2 h
   cases h
   exact rt func63 [.b false, .b true, .fin] (o1 (bnf (decide_eq_true c1)) (o1 (bnt (decide_eq_false c2)) on))
 ·replace h := iq c1 h
  cases h
  exact rt func63 [.b true, .fin] (o1 (bnt (decide_eq_false c1)) on)
def laws_eqSetup.f (a0 : S26) (a1 : S26) : Option Bool := (laws_eqGrid.f a0.f0 a1.f0).bind fun t1 => if t1 = true then (if a0.f1 = a1.f1 then (if a0.f2 = a1.f2 then (if a0.f3 = a1.f3 then (if a0.f4 = a1.f4 then (some true) else (some false)) else (some false)) else (some false)) else (some false)) else (some false)
theorem laws_eqSetup.go : Callable prog 19 := ⟨_, func19, by kernel_rfl, rfl⟩
theorem laws_eqSetup.ok (a0 : S26) (a1 : S26) (r : Bool) (h : laws_eqSetup.f a0 a1 = some r) : VCalls prog 19 [.agg (e26 a0), .agg (e26 a1)] [.c (.p (.sc (.bool r)))] := by
 unfold laws_eqSetup.f at h
 refine VCalls.of (fn := f19) (N := 31) func19 rfl rfl (fun w0 => ?_)
 obtain ⟨t1, g1, h⟩ := bindN h
 let C1 := mkCon (laws_eqGrid.ok a0.f0 a1.f0 t1 g1) laws_eqGrid.go
 by_cases c2 : t1 = true
 ·replace h := ip c2 h
  by_cases c3 : a0.f1 = a1.f1
  ·replace h := ip c3 h
   by_cases c4 : a0.f2 = a1.f2
   ·replace h := ip c4 h
    by_cases c5 : a0.f3 = a1.f3
    ·replace h := ip c5 h
     by_cases c6 : a0.f4 = a1.f4
     ·replace h := ip c6 h
      cases h
      exact rt func19 [.call C1, .b false, .b false, .b false, .b false, .b false, .fin] (oc C1 (o1 (bnf c2) (o1 (bnf (decide_eq_true c3)) (o1 (bnf (decide_eq_true c4)) (o1 (bnf (decide_eq_true c5)) (o1 (bnf (decide_eq_true c6)) on))))))
     ·replace h := iq c6 h
      cases h
      exact rt func19 [.call C1, .b false, .b false, .b false, .b false, .b true, .fin] (oc C1 (o1 (bnf c2) (o1 (bnf (decide_eq_true c3)) (o1 (bnf (decide_eq_true c4)) (o1 (bnf (decide_eq_true c5)) (o1 (bnt (decide_eq_false c6)) on))))))
    ·replace h := iq c5 h
     cases h
     exact rt func19 [.call C1, .b false, .b false, .b false, .b true, .fin] (oc C1 (o1 (bnf c2) (o1 (bnf (decide_eq_true c3)) (o1 (bnf (decide_eq_true c4)) (o1 (bnt (decide_eq_false c5)) on)))))
   ·replace h := iq c4 h
    cases h
    exact rt func19 [.call C1, .b false, .b false, .b true, .fin] (oc C1 (o1 (bnf c2) (o1 (bnf (decide_eq_true c3)) (o1 (bnt (decide_eq_false c4)) on))))
  ·replace h := iq c3 h
   cases h
   exact rt func19 [.call C1, .b false, .b true, .fin] (oc C1 (o1 (bnf c2) (o1 (bnt (decide_eq_false c3)) on)))
 ·replace h := iq c2 h
  cases h
  exact rt func19 [.call C1, .b true, .fin] (oc C1 (oN c2 on))
def laws_eqRobot.f (a0 : S51) (a1 : S51) : Option Bool := if a0.f0 = a1.f0 then (if a0.f1 = a1.f1 then (if a0.f2 = a1.f2 then (if (a0.f3 == a1.f3) = true then (some true) else (some false)) else (some false)) else (some false)) else (some false)
theorem laws_eqRobot.go : Callable prog 64 := ⟨_, func64, by kernel_rfl, rfl⟩
theorem laws_eqRobot.ok (a0 : S51) (a1 : S51) (r : Bool) (h : laws_eqRobot.f a0 a1 = some r) : VCalls prog 64 [.agg (e51 a0), .agg (e51 a1)] [.c (.p (.sc (.bool r)))] := by
 unfold laws_eqRobot.f at h
 refine VCalls.of (fn := f64) (N := 25) func64 rfl rfl (fun w0 => ?_)
 by_cases c1 : a0.f0 = a1.f0
 ·replace h := ip c1 h
  by_cases c2 : a0.f1 = a1.f1
  ·replace h := ip c2 h
   by_cases c3 : a0.f2 = a1.f2
   ·replace h := ip c3 h
    by_cases c4 : (a0.f3 == a1.f3) = true
    ·replace h := ip c4 h
     cases h
     exact rt func64 [.b false, .b false, .b false, .b false, .fin] (o1 (bnf (decide_eq_true c1)) (o1 (bnf (decide_eq_true c2)) (o1 (bnf (decide_eq_true c3)) (o1 (bnf c4) on))))
    ·replace h := iq c4 h
     cases h
     exact rt func64 [.b false, .b false, .b false, .b true, .fin] (o1 (bnf (decide_eq_true c1)) (o1 (bnf (decide_eq_true c2)) (o1 (bnf (decide_eq_true c3)) (oN c4 on))))
   ·replace h := iq c3 h
    cases h
    exact rt func64 [.b false, .b false, .b true, .fin] (o1 (bnf (decide_eq_true c1)) (o1 (bnf (decide_eq_true c2)) (o1 (bnt (decide_eq_false c3)) on)))
  ·replace h := iq c2 h
   cases h
   exact rt func64 [.b false, .b true, .fin] (o1 (bnf (decide_eq_true c1)) (o1 (bnt (decide_eq_false c2)) on))
 ·replace h := iq c1 h
  cases h
  exact rt func64 [.b true, .fin] (o1 (bnt (decide_eq_false c1)) on)
def laws_eqRobotS.h0T (a0 : List S51) (a1 : List S51) (v2 : Int) : List (Nat × AV) := [(0, .t (.c (.p false (R 4 e51 z51 a0)))), (1, .t (.c (.p false (R 4 e51 z51 a1)))), (5, .t (.c (.p true (iI v2))))]
def laws_eqRobotS.h0H (a0 : List S51) (a1 : List S51) (v2 : Int) : List (Nat × Content) := []
def laws_eqRobotS.l0 : Nat → List S51 → List S51 → Int → Option Bool
 | 0, _, _, _ => none
 | kq + 1, a0, a1, v2 => if v2 < (a0.length : Int) then (if 0 ≤ v2 then (if v2 < (a1.length : Int) then ((laws_eqRobot.f (rdD z51 a0 v2) (rdD z51 a1 v2)).bind fun t3 => if t3 = true then (laws_eqRobotS.l0 kq a0 a1 (w64 (v2 + 1))) else (some false)) else none) else none) else (some true)
def laws_eqRobotS.f (k : Nat) (a0 : List S51) (a1 : List S51) : Option Bool := if (a0.length : Int) = (a1.length : Int) then (laws_eqRobotS.l0 k a0 a1 0) else (some false)
theorem laws_eqRobotS.go : Callable prog 20 := ⟨_, func20, by kernel_rfl, rfl⟩
theorem laws_eqRobotS.ok (k : Nat) (a0 : List S51) (a1 : List S51) (r : Bool) (h : laws_eqRobotS.f k a0 a1 = some r) : VCalls prog 20 [.c (R 4 e51 z51 a0), .c (R 4 e51 z51 a1)] [.c (.p (.sc (.bool r)))] := by
 unfold laws_eqRobotS.f at h
 refine VCalls.of (fn := f20) (N := 27) func20 rfl rfl (fun w0 => ?_)
 by_cases c1 : (a0.length : Int) = (a1.length : Int)
 ·replace h := ip c1 h
  have H0 : ∀ (kq : Nat) (v2 : Int), laws_eqRobotS.l0 kq a0 a1 v2 = some r → AG prog 20 27 [.c (.p (.sc (.bool r)))] w0 (headStk (codeOf f20) 0) (mkFS (laws_eqRobotS.h0T a0 a1 v2) (laws_eqRobotS.h0H a0 a1 v2)) := by
   intro kq
   induction kq with
   | zero => intro v2 h; cases h
   | succ kq ih =>
     intro v2 h
     rw [laws_eqRobotS.l0] at h
     by_cases c6 : v2 < (a0.length : Int)
     ·replace h := ip c6 h
      obtain ⟨c7, h⟩ := ifN h
      obtain ⟨c8, h⟩ := ifN h
      obtain ⟨t3, g9, h⟩ := bindN h
      let C9 := mkCon (laws_eqRobot.ok (rdD z51 a0 v2) (rdD z51 a1 v2) t3 g9) laws_eqRobot.go
      by_cases c10 : t3 = true
      ·replace h := ip c10 h
       exact hd func20 [.b true, .call C9, .b false, .fin] (oT c6 (o1 c7 (o1 c6 (o1 c7 (o1 c8 (oc C9 (o1 (bnf c10) on))))))) (ih (w64 (v2 + 1)) h)
      ·replace h := iq c10 h
       cases h
       exact rt func20 [.b true, .call C9, .b true, .fin] (oT c6 (o1 c7 (o1 c6 (o1 c7 (o1 c8 (oc C9 (oN c10 on)))))))
     ·replace h := iq c6 h
      cases h
      exact rt func20 [.b false, .fin, .fin] (oF c6 on)
  exact hd func20 [.b false, .fin] (o1 (bnf (decide_eq_true c1)) on) (H0 k 0 h)
 ·replace h := iq c1 h
  cases h
  exact rt func20 [.b true, .fin] (o1 (bnt (decide_eq_false c1)) on)
def laws_eqIntS.h0T (a0 : List Int) (a1 : List Int) (v1 : Int) : List (Nat × AV) := [(0, .t (.c (.p false (R 1 (eI .i64) 0 a0)))), (1, .t (.c (.p false (R 1 (eI .i64) 0 a1)))), (5, .t (.c (.p true (iI v1))))]
def laws_eqIntS.h0H (a0 : List Int) (a1 : List Int) (v1 : Int) : List (Nat × Content) := []
def laws_eqIntS.l0 : Nat → List Int → List Int → Int → Option Bool
 | 0, _, _, _ => none
 | kq + 1, a0, a1, v1 => if v1 < (a0.length : Int) then (if 0 ≤ v1 then (if v1 < (a1.length : Int) then (if (rdD 0 a0 v1) = (rdD 0 a1 v1) then (laws_eqIntS.l0 kq a0 a1 (w64 (v1 + 1))) else (some false)) else none) else none) else (some true)
def laws_eqIntS.f (k : Nat) (a0 : List Int) (a1 : List Int) : Option Bool := if (a0.length : Int) = (a1.length : Int) then (laws_eqIntS.l0 k a0 a1 0) else (some false)
theorem laws_eqIntS.go : Callable prog 8 := ⟨_, func8, by kernel_rfl, rfl⟩
theorem laws_eqIntS.ok (k : Nat) (a0 : List Int) (a1 : List Int) (r : Bool) (h : laws_eqIntS.f k a0 a1 = some r) : VCalls prog 8 [.c (R 1 (eI .i64) 0 a0), .c (R 1 (eI .i64) 0 a1)] [.c (.p (.sc (.bool r)))] := by
 unfold laws_eqIntS.f at h
 refine VCalls.of (fn := f8) (N := 26) func8 rfl rfl (fun w0 => ?_)
 by_cases c1 : (a0.length : Int) = (a1.length : Int)
 ·replace h := ip c1 h
  have H0 : ∀ (kq : Nat) (v1 : Int), laws_eqIntS.l0 kq a0 a1 v1 = some r → AG prog 8 26 [.c (.p (.sc (.bool r)))] w0 (headStk (codeOf f8) 0) (mkFS (laws_eqIntS.h0T a0 a1 v1) (laws_eqIntS.h0H a0 a1 v1)) := by
   intro kq
   induction kq with
   | zero => intro v1 h; cases h
   | succ kq ih =>
     intro v1 h
     rw [laws_eqIntS.l0] at h
     by_cases c5 : v1 < (a0.length : Int)
     ·replace h := ip c5 h
      obtain ⟨c6, h⟩ := ifN h
      obtain ⟨c7, h⟩ := ifN h
      by_cases c8 : (rdD 0 a0 v1) = (rdD 0 a1 v1)
      ·replace h := ip c8 h
       exact hd func8 [.b true, .b false, .fin] (oT c5 (o1 c6 (o1 c5 (o1 c6 (o1 c7 (o1 (bnf (decide_eq_true c8)) on)))))) (ih (w64 (v1 + 1)) h)
      ·replace h := iq c8 h
       cases h
       exact rt func8 [.b true, .b true, .fin] (oT c5 (o1 c6 (o1 c5 (o1 c6 (o1 c7 (o1 (bnt (decide_eq_false c8)) on))))))
     ·replace h := iq c5 h
      cases h
      exact rt func8 [.b false, .fin, .fin] (oF c5 on)
  exact hd func8 [.b false, .fin] (o1 (bnf (decide_eq_true c1)) on) (H0 k 0 h)
 ·replace h := iq c1 h
  cases h
  exact rt func8 [.b true, .fin] (o1 (bnt (decide_eq_false c1)) on)
def laws_eqWindow.f (k : Nat) (a0 : S29) (a1 : S29) : Option Bool := if a0.f0 = a1.f0 then (if a0.f1 = a1.f1 then ((laws_eqIntS.f k a0.f2 a1.f2).bind fun t1 => if t1 = true then (some true) else (some false)) else (some false)) else (some false)
theorem laws_eqWindow.go : Callable prog 21 := ⟨_, func21, by kernel_rfl, rfl⟩
theorem laws_eqWindow.ok (k : Nat) (a0 : S29) (a1 : S29) (r : Bool) (h : laws_eqWindow.f k a0 a1 = some r) : VCalls prog 21 [.agg (e29 a0), .agg (e29 a1)] [.c (.p (.sc (.bool r)))] := by
 unfold laws_eqWindow.f at h
 refine VCalls.of (fn := f21) (N := 21) func21 rfl rfl (fun w0 => ?_)
 by_cases c1 : a0.f0 = a1.f0
 ·replace h := ip c1 h
  by_cases c2 : a0.f1 = a1.f1
  ·replace h := ip c2 h
   obtain ⟨t1, g3, h⟩ := bindN h
   let C3 := mkCon (laws_eqIntS.ok k a0.f2 a1.f2 t1 g3) laws_eqIntS.go
   by_cases c4 : t1 = true
   ·replace h := ip c4 h
    cases h
    exact rt func21 [.b false, .b false, .call C3, .b false, .fin] (o1 (bnf (decide_eq_true c1)) (o1 (bnf (decide_eq_true c2)) (oc C3 (o1 (bnf c4) on))))
   ·replace h := iq c4 h
    cases h
    exact rt func21 [.b false, .b false, .call C3, .b true, .fin] (o1 (bnf (decide_eq_true c1)) (o1 (bnf (decide_eq_true c2)) (oc C3 (oN c4 on))))
  ·replace h := iq c2 h
   cases h
   exact rt func21 [.b false, .b true, .fin] (o1 (bnf (decide_eq_true c1)) (o1 (bnt (decide_eq_false c2)) on))
 ·replace h := iq c1 h
  cases h
  exact rt func21 [.b true, .fin] (o1 (bnt (decide_eq_false c1)) on)
def laws_eqWay.f (k : Nat) (a0 : S53) (a1 : S53) : Option Bool := (laws_eqIntS.f k a0.f0 a1.f0).bind fun t1 => if t1 = true then (some true) else (some false)
theorem laws_eqWay.go : Callable prog 113 := ⟨_, func113, by kernel_rfl, rfl⟩
theorem laws_eqWay.ok (k : Nat) (a0 : S53) (a1 : S53) (r : Bool) (h : laws_eqWay.f k a0 a1 = some r) : VCalls prog 113 [.agg (e53 a0), .agg (e53 a1)] [.c (.p (.sc (.bool r)))] := by
 unfold laws_eqWay.f at h
 refine VCalls.of (fn := f113) (N := 11) func113 rfl rfl (fun w0 => ?_)
 obtain ⟨t1, g1, h⟩ := bindN h
 let C1 := mkCon (laws_eqIntS.ok k a0.f0 a1.f0 t1 g1) laws_eqIntS.go
 by_cases c2 : t1 = true
 ·replace h := ip c2 h
  cases h
  exact rt func113 [.call C1, .b false, .fin] (oc C1 (o1 (bnf c2) on))
 ·replace h := iq c2 h
  cases h
  exact rt func113 [.call C1, .b true, .fin] (oc C1 (oN c2 on))
def laws_eqWayS.h0T (a0 : List S53) (a1 : List S53) (v2 : Int) : List (Nat × AV) := [(0, .t (.c (.p false (R 1 e53 z53 a0)))), (1, .t (.c (.p false (R 1 e53 z53 a1)))), (5, .t (.c (.p true (iI v2))))]
def laws_eqWayS.h0H (a0 : List S53) (a1 : List S53) (v2 : Int) : List (Nat × Content) := []
def laws_eqWayS.l0 : Nat → List S53 → List S53 → Int → Option Bool
 | 0, _, _, _ => none
 | kq + 1, a0, a1, v2 => if v2 < (a0.length : Int) then (if 0 ≤ v2 then (if v2 < (a1.length : Int) then ((laws_eqWay.f kq (rdD z53 a0 v2) (rdD z53 a1 v2)).bind fun t3 => if t3 = true then (laws_eqWayS.l0 kq a0 a1 (w64 (v2 + 1))) else (some false)) else none) else none) else (some true)
def laws_eqWayS.f (k : Nat) (a0 : List S53) (a1 : List S53) : Option Bool := if (a0.length : Int) = (a1.length : Int) then (laws_eqWayS.l0 k a0 a1 0) else (some false)
theorem laws_eqWayS.go : Callable prog 65 := ⟨_, func65, by kernel_rfl, rfl⟩
theorem laws_eqWayS.ok (k : Nat) (a0 : List S53) (a1 : List S53) (r : Bool) (h : laws_eqWayS.f k a0 a1 = some r) : VCalls prog 65 [.c (R 1 e53 z53 a0), .c (R 1 e53 z53 a1)] [.c (.p (.sc (.bool r)))] := by
 unfold laws_eqWayS.f at h
 refine VCalls.of (fn := f65) (N := 27) func65 rfl rfl (fun w0 => ?_)
 by_cases c1 : (a0.length : Int) = (a1.length : Int)
 ·replace h := ip c1 h
  have H0 : ∀ (kq : Nat) (v2 : Int), laws_eqWayS.l0 kq a0 a1 v2 = some r → AG prog 65 27 [.c (.p (.sc (.bool r)))] w0 (headStk (codeOf f65) 0) (mkFS (laws_eqWayS.h0T a0 a1 v2) (laws_eqWayS.h0H a0 a1 v2)) := by
   intro kq
   induction kq with
   | zero => intro v2 h; cases h
   | succ kq ih =>
     intro v2 h
     rw [laws_eqWayS.l0] at h
     by_cases c6 : v2 < (a0.length : Int)
     ·replace h := ip c6 h
      obtain ⟨c7, h⟩ := ifN h
      obtain ⟨c8, h⟩ := ifN h
      obtain ⟨t3, g9, h⟩ := bindN h
      let C9 := mkCon (laws_eqWay.ok kq (rdD z53 a0 v2) (rdD z53 a1 v2) t3 g9) laws_eqWay.go
      by_cases c10 : t3 = true
      ·replace h := ip c10 h
       exact hd func65 [.b true, .call C9, .b false, .fin] (oT c6 (o1 c7 (o1 c6 (o1 c7 (o1 c8 (oc C9 (o1 (bnf c10) on))))))) (ih (w64 (v2 + 1)) h)
      ·replace h := iq c10 h
       cases h
       exact rt func65 [.b true, .call C9, .b true, .fin] (oT c6 (o1 c7 (o1 c6 (o1 c7 (o1 c8 (oc C9 (oN c10 on)))))))
     ·replace h := iq c6 h
      cases h
      exact rt func65 [.b false, .fin, .fin] (oF c6 on)
  exact hd func65 [.b false, .fin] (o1 (bnf (decide_eq_true c1)) on) (H0 k 0 h)
 ·replace h := iq c1 h
  cases h
  exact rt func65 [.b true, .fin] (o1 (bnt (decide_eq_false c1)) on)
def laws_eqPlan.f (k : Nat) (a0 : S32) (a1 : S32) : Option Bool := if a0.f0 = a1.f0 then (if a0.f1 = a1.f1 then ((laws_eqWayS.f k a0.f2 a1.f2).bind fun t1 => if t1 = true then (some true) else (some false)) else (some false)) else (some false)
theorem laws_eqPlan.go : Callable prog 22 := ⟨_, func22, by kernel_rfl, rfl⟩
theorem laws_eqPlan.ok (k : Nat) (a0 : S32) (a1 : S32) (r : Bool) (h : laws_eqPlan.f k a0 a1 = some r) : VCalls prog 22 [.agg (e32 a0), .agg (e32 a1)] [.c (.p (.sc (.bool r)))] := by
 unfold laws_eqPlan.f at h
 refine VCalls.of (fn := f22) (N := 21) func22 rfl rfl (fun w0 => ?_)
 by_cases c1 : a0.f0 = a1.f0
 ·replace h := ip c1 h
  by_cases c2 : a0.f1 = a1.f1
  ·replace h := ip c2 h
   obtain ⟨t1, g3, h⟩ := bindN h
   let C3 := mkCon (laws_eqWayS.ok k a0.f2 a1.f2 t1 g3) laws_eqWayS.go
   by_cases c4 : t1 = true
   ·replace h := ip c4 h
    cases h
    exact rt func22 [.b false, .b false, .call C3, .b false, .fin] (o1 (bnf (decide_eq_true c1)) (o1 (bnf (decide_eq_true c2)) (oc C3 (o1 (bnf c4) on))))
   ·replace h := iq c4 h
    cases h
    exact rt func22 [.b false, .b false, .call C3, .b true, .fin] (o1 (bnf (decide_eq_true c1)) (o1 (bnf (decide_eq_true c2)) (oc C3 (oN c4 on))))
  ·replace h := iq c2 h
   cases h
   exact rt func22 [.b false, .b true, .fin] (o1 (bnf (decide_eq_true c1)) (o1 (bnt (decide_eq_false c2)) on))
 ·replace h := iq c1 h
  cases h
  exact rt func22 [.b true, .fin] (o1 (bnt (decide_eq_false c1)) on)
def laws_eqJob.f (a0 : S55) (a1 : S55) : Option Bool := if a0.f0 = a1.f0 then (if a0.f1 = a1.f1 then (if (a0.f2 == a1.f2) = true then (some true) else (some false)) else (some false)) else (some false)
theorem laws_eqJob.go : Callable prog 66 := ⟨_, func66, by kernel_rfl, rfl⟩
theorem laws_eqJob.ok (a0 : S55) (a1 : S55) (r : Bool) (h : laws_eqJob.f a0 a1 = some r) : VCalls prog 66 [.agg (e55 a0), .agg (e55 a1)] [.c (.p (.sc (.bool r)))] := by
 unfold laws_eqJob.f at h
 refine VCalls.of (fn := f66) (N := 20) func66 rfl rfl (fun w0 => ?_)
 by_cases c1 : a0.f0 = a1.f0
 ·replace h := ip c1 h
  by_cases c2 : a0.f1 = a1.f1
  ·replace h := ip c2 h
   by_cases c3 : (a0.f2 == a1.f2) = true
   ·replace h := ip c3 h
    cases h
    exact rt func66 [.b false, .b false, .b false, .fin] (o1 (bnf (decide_eq_true c1)) (o1 (bnf (decide_eq_true c2)) (o1 (bnf c3) on)))
   ·replace h := iq c3 h
    cases h
    exact rt func66 [.b false, .b false, .b true, .fin] (o1 (bnf (decide_eq_true c1)) (o1 (bnf (decide_eq_true c2)) (oN c3 on)))
  ·replace h := iq c2 h
   cases h
   exact rt func66 [.b false, .b true, .fin] (o1 (bnf (decide_eq_true c1)) (o1 (bnt (decide_eq_false c2)) on))
 ·replace h := iq c1 h
  cases h
  exact rt func66 [.b true, .fin] (o1 (bnt (decide_eq_false c1)) on)
def laws_eqJobS.h0T (a0 : List S55) (a1 : List S55) (v2 : Int) : List (Nat × AV) := [(0, .t (.c (.p false (R 3 e55 z55 a0)))), (1, .t (.c (.p false (R 3 e55 z55 a1)))), (5, .t (.c (.p true (iI v2))))]
def laws_eqJobS.h0H (a0 : List S55) (a1 : List S55) (v2 : Int) : List (Nat × Content) := []
def laws_eqJobS.l0 : Nat → List S55 → List S55 → Int → Option Bool
 | 0, _, _, _ => none
 | kq + 1, a0, a1, v2 => if v2 < (a0.length : Int) then (if 0 ≤ v2 then (if v2 < (a1.length : Int) then ((laws_eqJob.f (rdD z55 a0 v2) (rdD z55 a1 v2)).bind fun t3 => if t3 = true then (laws_eqJobS.l0 kq a0 a1 (w64 (v2 + 1))) else (some false)) else none) else none) else (some true)
def laws_eqJobS.f (k : Nat) (a0 : List S55) (a1 : List S55) : Option Bool := if (a0.length : Int) = (a1.length : Int) then (laws_eqJobS.l0 k a0 a1 0) else (some false)
theorem laws_eqJobS.go : Callable prog 23 := ⟨_, func23, by kernel_rfl, rfl⟩
theorem laws_eqJobS.ok (k : Nat) (a0 : List S55) (a1 : List S55) (r : Bool) (h : laws_eqJobS.f k a0 a1 = some r) : VCalls prog 23 [.c (R 3 e55 z55 a0), .c (R 3 e55 z55 a1)] [.c (.p (.sc (.bool r)))] := by
 unfold laws_eqJobS.f at h
 refine VCalls.of (fn := f23) (N := 27) func23 rfl rfl (fun w0 => ?_)
 by_cases c1 : (a0.length : Int) = (a1.length : Int)
 ·replace h := ip c1 h
  have H0 : ∀ (kq : Nat) (v2 : Int), laws_eqJobS.l0 kq a0 a1 v2 = some r → AG prog 23 27 [.c (.p (.sc (.bool r)))] w0 (headStk (codeOf f23) 0) (mkFS (laws_eqJobS.h0T a0 a1 v2) (laws_eqJobS.h0H a0 a1 v2)) := by
   intro kq
   induction kq with
   | zero => intro v2 h; cases h
   | succ kq ih =>
     intro v2 h
     rw [laws_eqJobS.l0] at h
     by_cases c6 : v2 < (a0.length : Int)
     ·replace h := ip c6 h
      obtain ⟨c7, h⟩ := ifN h
      obtain ⟨c8, h⟩ := ifN h
      obtain ⟨t3, g9, h⟩ := bindN h
      let C9 := mkCon (laws_eqJob.ok (rdD z55 a0 v2) (rdD z55 a1 v2) t3 g9) laws_eqJob.go
      by_cases c10 : t3 = true
      ·replace h := ip c10 h
       exact hd func23 [.b true, .call C9, .b false, .fin] (oT c6 (o1 c7 (o1 c6 (o1 c7 (o1 c8 (oc C9 (o1 (bnf c10) on))))))) (ih (w64 (v2 + 1)) h)
      ·replace h := iq c10 h
       cases h
       exact rt func23 [.b true, .call C9, .b true, .fin] (oT c6 (o1 c7 (o1 c6 (o1 c7 (o1 c8 (oc C9 (oN c10 on)))))))
     ·replace h := iq c6 h
      cases h
      exact rt func23 [.b false, .fin, .fin] (oF c6 on)
  exact hd func23 [.b false, .fin] (o1 (bnf (decide_eq_true c1)) on) (H0 k 0 h)
 ·replace h := iq c1 h
  cases h
  exact rt func23 [.b true, .fin] (o1 (bnt (decide_eq_false c1)) on)
def laws_eqYard.f (k : Nat) (a0 : S35) (a1 : S35) : Option Bool := (laws_eqSetup.f a0.f0 a1.f0).bind fun t1 => if t1 = true then ((laws_eqRobotS.f k a0.f1 a1.f1).bind fun t2 => if t2 = true then ((laws_eqWindow.f k a0.f2 a1.f2).bind fun t3 => if t3 = true then (if a0.f3 = a1.f3 then (if (a0.f4 == a1.f4) = true then ((laws_eqPlan.f k a0.f5 a1.f5).bind fun t4 => if t4 = true then ((laws_eqJobS.f k a0.f6 a1.f6).bind fun t5 => if t5 = true then ((laws_eqIntS.f k a0.f7 a1.f7).bind fun t6 => if t6 = true then (some true) else (some false)) else (some false)) else (some false)) else (some false)) else (some false)) else (some false)) else (some false)) else (some false)
theorem laws_eqYard.go : Callable prog 7 := ⟨_, func7, by kernel_rfl, rfl⟩
theorem laws_eqYard.ok (k : Nat) (a0 : S35) (a1 : S35) (r : Bool) (h : laws_eqYard.f k a0 a1 = some r) : VCalls prog 7 [.agg (e35 a0), .agg (e35 a1)] [.c (.p (.sc (.bool r)))] := by
 unfold laws_eqYard.f at h
 refine VCalls.of (fn := f7) (N := 51) func7 rfl rfl (fun w0 => ?_)
 obtain ⟨t1, g1, h⟩ := bindN h
 let C1 := mkCon (laws_eqSetup.ok a0.f0 a1.f0 t1 g1) laws_eqSetup.go
 by_cases c2 : t1 = true
 ·replace h := ip c2 h
  obtain ⟨t2, g3, h⟩ := bindN h
  let C3 := mkCon (laws_eqRobotS.ok k a0.f1 a1.f1 t2 g3) laws_eqRobotS.go
  by_cases c4 : t2 = true
  ·replace h := ip c4 h
   obtain ⟨t3, g5, h⟩ := bindN h
   let C5 := mkCon (laws_eqWindow.ok k a0.f2 a1.f2 t3 g5) laws_eqWindow.go
   by_cases c6 : t3 = true
   ·replace h := ip c6 h
    by_cases c7 : a0.f3 = a1.f3
    ·replace h := ip c7 h
     by_cases c8 : (a0.f4 == a1.f4) = true
     ·replace h := ip c8 h
      obtain ⟨t4, g9, h⟩ := bindN h
      let C9 := mkCon (laws_eqPlan.ok k a0.f5 a1.f5 t4 g9) laws_eqPlan.go
      by_cases c10 : t4 = true
      ·replace h := ip c10 h
       obtain ⟨t5, g11, h⟩ := bindN h
       let C11 := mkCon (laws_eqJobS.ok k a0.f6 a1.f6 t5 g11) laws_eqJobS.go
       by_cases c12 : t5 = true
       ·replace h := ip c12 h
        obtain ⟨t6, g13, h⟩ := bindN h
        let C13 := mkCon (laws_eqIntS.ok k a0.f7 a1.f7 t6 g13) laws_eqIntS.go
        by_cases c14 : t6 = true
        ·replace h := ip c14 h
         cases h
         exact rt func7 [.call C1, .b false, .call C3, .b false, .call C5, .b false, .b false, .b false, .call C9, .b false, .call C11, .b false, .call C13, .b false, .fin] (oc C1 (o1 (bnf c2) (oc C3 (o1 (bnf c4) (oc C5 (o1 (bnf c6) (o1 (bnf (decide_eq_true c7)) (o1 (bnf c8) (oc C9 (o1 (bnf c10) (oc C11 (o1 (bnf c12) (oc C13 (o1 (bnf c14) on))))))))))))))
        ·replace h := iq c14 h
         cases h
         exact rt func7 [.call C1, .b false, .call C3, .b false, .call C5, .b false, .b false, .b false, .call C9, .b false, .call C11, .b false, .call C13, .b true, .fin] (oc C1 (o1 (bnf c2) (oc C3 (o1 (bnf c4) (oc C5 (o1 (bnf c6) (o1 (bnf (decide_eq_true c7)) (o1 (bnf c8) (oc C9 (o1 (bnf c10) (oc C11 (o1 (bnf c12) (oc C13 (oN c14 on))))))))))))))
       ·replace h := iq c12 h
        cases h
        exact rt func7 [.call C1, .b false, .call C3, .b false, .call C5, .b false, .b false, .b false, .call C9, .b false, .call C11, .b true, .fin] (oc C1 (o1 (bnf c2) (oc C3 (o1 (bnf c4) (oc C5 (o1 (bnf c6) (o1 (bnf (decide_eq_true c7)) (o1 (bnf c8) (oc C9 (o1 (bnf c10) (oc C11 (oN c12 on))))))))))))
      ·replace h := iq c10 h
       cases h
       exact rt func7 [.call C1, .b false, .call C3, .b false, .call C5, .b false, .b false, .b false, .call C9, .b true, .fin] (oc C1 (o1 (bnf c2) (oc C3 (o1 (bnf c4) (oc C5 (o1 (bnf c6) (o1 (bnf (decide_eq_true c7)) (o1 (bnf c8) (oc C9 (oN c10 on))))))))))
     ·replace h := iq c8 h
      cases h
      exact rt func7 [.call C1, .b false, .call C3, .b false, .call C5, .b false, .b false, .b true, .fin] (oc C1 (o1 (bnf c2) (oc C3 (o1 (bnf c4) (oc C5 (o1 (bnf c6) (o1 (bnf (decide_eq_true c7)) (oN c8 on))))))))
    ·replace h := iq c7 h
     cases h
     exact rt func7 [.call C1, .b false, .call C3, .b false, .call C5, .b false, .b true, .fin] (oc C1 (o1 (bnf c2) (oc C3 (o1 (bnf c4) (oc C5 (o1 (bnf c6) (o1 (bnt (decide_eq_false c7)) on)))))))
   ·replace h := iq c6 h
    cases h
    exact rt func7 [.call C1, .b false, .call C3, .b false, .call C5, .b true, .fin] (oc C1 (o1 (bnf c2) (oc C3 (o1 (bnf c4) (oc C5 (oN c6 on))))))
  ·replace h := iq c4 h
   cases h
   exact rt func7 [.call C1, .b false, .call C3, .b true, .fin] (oc C1 (o1 (bnf c2) (oc C3 (oN c4 on))))
 ·replace h := iq c2 h
  cases h
  exact rt func7 [.call C1, .b true, .fin] (oc C1 (oN c2 on))
def laws_markIntS.h0T (xw : Nat → Value) (v5 : Int) (v6 : Int) (v4 : List Int) : List (Nat × AV) := [(0, .t (.c (.hv 0 (xw 0)))), (1, .t (.c (.p false (iI v5)))), (5, .t (.c (.p true (iI v6))))]
def laws_markIntS.h0H (xw : Nat → Value) (v5 : Int) (v6 : Int) (v4 : List Int) : List (Nat × Content) := [(0, .row 3 1 v4.length (fun j => (eI .i64) (v4.getD j 0)) true)]
def laws_markIntS.l0 : Nat → List Int → Int → Int → Option (Int × List Int)
 | 0, _, _, _ => none
 | kq + 1, v4, v5, v6 => if v6 < (v4.length : Int) then (if 0 ≤ v6 then (laws_markIntS.l0 kq  (v4.set v6.toNat v5) (w64 (v5 + 1)) (w64 (v6 + 1))) else none) else (some (v5, v4))
def laws_markIntS.f (k : Nat) (a0 : List Int) (a1 : Int) : Option (Int × List Int) := laws_markIntS.l0 k  a0 a1 0
theorem laws_markIntS.go : Callable prog 9 := ⟨_, func9, by kernel_rfl, rfl⟩
def laws_markIntS.cin (a0 : List Int) : List (Nat × Content) := [(0, .row 3 1 a0.length (fun j => (eI .i64) (a0.getD j 0)) true)]
def laws_markIntS.cout (r : Int × List Int) : List (Nat × Content) := [(0, .row 3 1 r.2.length (fun j => (eI .i64) (r.2.getD j 0)) true)]
theorem laws_markIntS.flat (r : Int × List Int) : ∀ p ∈ laws_markIntS.cout r, flatP p.2 := (flatP_cons (SC.of (e := (eI .i64)) (d := 0) r.2 (by intro x; rfl)) flatP_nil)
theorem laws_markIntS.okW (k : Nat) (a0 : List Int) (a1 : Int) (r : Int × List Int) (h : laws_markIntS.f k a0 a1 = some r) : WOk prog 9 [.t (.c (.h 0)), .t (.c (.p false (iI a1)))] (laws_markIntS.cin a0) (laws_markIntS.cout r) (.int .i64 r.1) := by
 unfold laws_markIntS.f at h
 refine WOk.of (fn := f9) (N := 19) func9 rfl rfl rfl rfl rfl (laws_markIntS.flat r) (fun w0 xw hB hQ => ?_)
 have H0 : ∀ (kq : Nat) (v4 : List Int) (v5 : Int) (v6 : Int), laws_markIntS.l0 kq  v4 v5 v6 = some r → AG prog 9 19 [.c (.p (iI r.1))] w0 (headStk (codeOf f9) 0) (mkFS (laws_markIntS.h0T xw v5 v6 v4) (laws_markIntS.h0H xw v5 v6 v4)) := by
  intro kq
  induction kq with
  | zero => intro v4 v5 v6 h; cases h
  | succ kq ih =>
    intro v4 v5 v6 h
    rw [laws_markIntS.l0] at h
    by_cases c5 : v6 < (v4.length : Int)
    ·replace h := ip c5 h
     obtain ⟨c6, h⟩ := ifN h
     exact hd func9 [.b true, .aft 999999, orow 0 (eI .i64) 0 (v4.set v6.toNat v5), .fin] (oT c5 (o1 c6 (o1 c5 (o1 (GE.set (e := (eI .i64)) (d := 0) v4 v6.toNat v5 (lt_toNat c6 c5) rfl) on)))) (ih (v4.set v6.toNat v5) (w64 (v5 + 1)) (w64 (v6 + 1)) h)
    ·replace h := iq c5 h
     cases h
     exact byRetW MX func9 hB hQ (laws_markIntS.flat _) (T := [(0, .t (.c (.hv 0 (xw 0))))]) rfl 1000 [.b false, .fin, .fin] (oF c5 on) (by kernel_rfl)
 exact hd func9 [.fin] on (H0 k a0 a1 0 h)
def laws_markIntS.con (k : Nat) (a0 : List Int) (a1 : Int) (r : Int × List Int) (h : laws_markIntS.f k a0 a1 = some r) : WCon prog := ⟨9, [.t (.c (.h 0)), .t (.c (.p false (iI a1)))], laws_markIntS.cin a0, laws_markIntS.cout r, .int .i64 r.1, rfl, laws_markIntS.okW k a0 a1 r h, laws_markIntS.go⟩
def laws_markRobotS.h0T (xw : Nat → Value) (v5 : Int) (v6 : Int) (v4 : List S51) : List (Nat × AV) := [(0, .t (.c (.hv 0 (xw 0)))), (1, .t (.c (.p false (iI v5)))), (5, .t (.c (.p true (iI v6))))]
def laws_markRobotS.h0H (xw : Nat → Value) (v5 : Int) (v6 : Int) (v4 : List S51) : List (Nat × Content) := [(0, .row 51 4 v4.length (fun j => e51 (v4.getD j z51)) true)]
def laws_markRobotS.l0 : Nat → List S51 → Int → Int → Option (Int × List S51)
 | 0, _, _, _ => none
 | kq + 1, v4, v5, v6 => if v6 < (v4.length : Int) then (if 0 ≤ v6 then (laws_markRobotS.l0 kq  (v4.set v6.toNat (⟨v5, (w64 (v5 + 1)), (w64 ((w64 (v5 + 1)) + 1)), (decide (((w64 ((w64 ((w64 (v5 + 1)) + 1)) + 1)).tmod 3) = 0))⟩ : S51)) (w64 ((w64 ((w64 ((w64 (v5 + 1)) + 1)) + 1)) + 1)) (w64 (v6 + 1))) else none) else (some (v5, v4))
def laws_markRobotS.f (k : Nat) (a0 : List S51) (a1 : Int) : Option (Int × List S51) := laws_markRobotS.l0 k  a0 a1 0
theorem laws_markRobotS.go : Callable prog 24 := ⟨_, func24, by kernel_rfl, rfl⟩
def laws_markRobotS.cin (a0 : List S51) : List (Nat × Content) := [(0, .row 51 4 a0.length (fun j => e51 (a0.getD j z51)) true)]
def laws_markRobotS.cout (r : Int × List S51) : List (Nat × Content) := [(0, .row 51 4 r.2.length (fun j => e51 (r.2.getD j z51)) true)]
theorem laws_markRobotS.flat (r : Int × List S51) : ∀ p ∈ laws_markRobotS.cout r, flatP p.2 := (flatP_cons (SC.of (e := e51) (d := z51) r.2 (by intro x; rfl)) flatP_nil)
theorem laws_markRobotS.okW (k : Nat) (a0 : List S51) (a1 : Int) (r : Int × List S51) (h : laws_markRobotS.f k a0 a1 = some r) : WOk prog 24 [.t (.c (.h 0)), .t (.c (.p false (iI a1)))] (laws_markRobotS.cin a0) (laws_markRobotS.cout r) (.int .i64 r.1) := by
 unfold laws_markRobotS.f at h
 refine WOk.of (fn := f24) (N := 43) func24 rfl rfl rfl rfl rfl (laws_markRobotS.flat r) (fun w0 xw hB hQ => ?_)
 have H0 : ∀ (kq : Nat) (v4 : List S51) (v5 : Int) (v6 : Int), laws_markRobotS.l0 kq  v4 v5 v6 = some r → AG prog 24 43 [.c (.p (iI r.1))] w0 (headStk (codeOf f24) 0) (mkFS (laws_markRobotS.h0T xw v5 v6 v4) (laws_markRobotS.h0H xw v5 v6 v4)) := by
  intro kq
  induction kq with
  | zero => intro v4 v5 v6 h; cases h
  | succ kq ih =>
    intro v4 v5 v6 h
    rw [laws_markRobotS.l0] at h
    by_cases c5 : v6 < (v4.length : Int)
    ·replace h := ip c5 h
     obtain ⟨c6, h⟩ := ifN h
     exact hd func24 [.b true, .aft 999999, orow 0 e51 z51 (v4.set v6.toNat (⟨v5, (rdD z51 v4 v6).f1, (rdD z51 v4 v6).f2, (rdD z51 v4 v6).f3⟩ : S51)), .aft 999999, orow 0 e51 z51 (v4.set v6.toNat (⟨v5, (w64 (v5 + 1)), (rdD z51 v4 v6).f2, (rdD z51 v4 v6).f3⟩ : S51)), .aft 999999, orow 0 e51 z51 (v4.set v6.toNat (⟨v5, (w64 (v5 + 1)), (w64 ((w64 (v5 + 1)) + 1)), (rdD z51 v4 v6).f3⟩ : S51)), .aft 999999, orow 0 e51 z51 (v4.set v6.toNat (⟨v5, (w64 (v5 + 1)), (w64 ((w64 (v5 + 1)) + 1)), (decide (((w64 ((w64 ((w64 (v5 + 1)) + 1)) + 1)).tmod 3) = 0))⟩ : S51)), .fin] (oT c5 (o1 c6 (o1 c5 (o1 (GE.set (e := e51) (d := z51) v4 v6.toNat (⟨v5, (rdD z51 v4 v6).f1, (rdD z51 v4 v6).f2, (rdD z51 v4 v6).f3⟩ : S51) (lt_toNat c6 c5) rfl) (o1 c6 (o1 (lt_set (k := v6.toNat) (v := (⟨v5, (rdD z51 v4 v6).f1, (rdD z51 v4 v6).f2, (rdD z51 v4 v6).f3⟩ : S51)) c5) (o1 (GE.set2 (e := e51) (d := z51) v4 v6.toNat (⟨v5, (rdD z51 v4 v6).f1, (rdD z51 v4 v6).f2, (rdD z51 v4 v6).f3⟩ : S51) (⟨v5, (w64 (v5 + 1)), (rdD z51 v4 v6).f2, (rdD z51 v4 v6).f3⟩ : S51) (lt_toNat c6 c5) (f := fun u => splice u 1 [.sc (.int .i64 (w64 (v5 + 1)))]) rfl) (o1 c6 (o1 (lt_set (k := v6.toNat) (v := (⟨v5, (w64 (v5 + 1)), (rdD z51 v4 v6).f2, (rdD z51 v4 v6).f3⟩ : S51)) c5) (o1 (GE.set2 (e := e51) (d := z51) v4 v6.toNat (⟨v5, (w64 (v5 + 1)), (rdD z51 v4 v6).f2, (rdD z51 v4 v6).f3⟩ : S51) (⟨v5, (w64 (v5 + 1)), (w64 ((w64 (v5 + 1)) + 1)), (rdD z51 v4 v6).f3⟩ : S51) (lt_toNat c6 c5) (f := fun u => splice u 2 [.sc (.int .i64 (w64 ((w64 (v5 + 1)) + 1)))]) rfl) (o1 (by decide : (3 : Int) ≠ 0) (o1 c6 (o1 (lt_set (k := v6.toNat) (v := (⟨v5, (w64 (v5 + 1)), (w64 ((w64 (v5 + 1)) + 1)), (rdD z51 v4 v6).f3⟩ : S51)) c5) (o1 (GE.set2 (e := e51) (d := z51) v4 v6.toNat (⟨v5, (w64 (v5 + 1)), (w64 ((w64 (v5 + 1)) + 1)), (rdD z51 v4 v6).f3⟩ : S51) (⟨v5, (w64 (v5 + 1)), (w64 ((w64 (v5 + 1)) + 1)), (decide (((w64 ((w64 ((w64 (v5 + 1)) + 1)) + 1)).tmod 3) = 0))⟩ : S51) (lt_toNat c6 c5) (f := fun u => splice u 3 [.sc (.bool (decide (((w64 ((w64 ((w64 (v5 + 1)) + 1)) + 1)).tmod 3) = 0)))]) rfl) on)))))))))))))) (ih (v4.set v6.toNat (⟨v5, (w64 (v5 + 1)), (w64 ((w64 (v5 + 1)) + 1)), (decide (((w64 ((w64 ((w64 (v5 + 1)) + 1)) + 1)).tmod 3) = 0))⟩ : S51)) (w64 ((w64 ((w64 ((w64 (v5 + 1)) + 1)) + 1)) + 1)) (w64 (v6 + 1)) h)
    ·replace h := iq c5 h
     cases h
     exact byRetW MX func24 hB hQ (laws_markRobotS.flat _) (T := [(0, .t (.c (.hv 0 (xw 0))))]) rfl 1000 [.b false, .fin, .fin] (oF c5 on) (by kernel_rfl)
 exact hd func24 [.fin] on (H0 k a0 a1 0 h)
def laws_markRobotS.con (k : Nat) (a0 : List S51) (a1 : Int) (r : Int × List S51) (h : laws_markRobotS.f k a0 a1 = some r) : WCon prog := ⟨24, [.t (.c (.h 0)), .t (.c (.p false (iI a1)))], laws_markRobotS.cin a0, laws_markRobotS.cout r, .int .i64 r.1, rfl, laws_markRobotS.okW k a0 a1 r h, laws_markRobotS.go⟩
def laws_markWindow.f (k : Nat) (a0 : S29) (a1 : Int) : Option (Int × List Int) := (laws_markIntS.f k a0.f2 a1).bind fun t1 => some (t1.1, t1.2)
theorem laws_markWindow.go : Callable prog 25 := ⟨_, func25, by kernel_rfl, rfl⟩
def laws_markWindow.cin (a0 : S29) : List (Nat × Content) := [(2, .row 3 1 a0.f2.length (fun j => (eI .i64) (a0.f2.getD j 0)) true)]
def laws_markWindow.cout (r : Int × List Int) : List (Nat × Content) := [(2, .row 3 1 r.2.length (fun j => (eI .i64) (r.2.getD j 0)) true)]
theorem laws_markWindow.flat (r : Int × List Int) : ∀ p ∈ laws_markWindow.cout r, flatP p.2 := (flatP_cons (SC.of (e := (eI .i64)) (d := 0) r.2 (by intro x; rfl)) flatP_nil)
theorem laws_markWindow.okW (k : Nat) (a0 : S29) (a1 : Int) (r : Int × List Int) (h : laws_markWindow.f k a0 a1 = some r) : WOk prog 25 [.t (.agg [.p false (iI a0.f0), .p false (iI a0.f1), .h 2]), .t (.c (.p false (iI a1)))] (laws_markWindow.cin a0) (laws_markWindow.cout r) (.int .i64 r.1) := by
 unfold laws_markWindow.f at h
 refine WOk.of (fn := f25) (N := 10) func25 rfl rfl rfl rfl rfl (laws_markWindow.flat r) (fun w0 xw hB hQ => ?_)
 obtain ⟨t1, g1, h⟩ := bindN h
 let C1 := laws_markIntS.con k a0.f2 a1 t1 g1
 cases h
 exact byRetW MX func25 hB hQ (laws_markWindow.flat _) (T := [(0, .t (.agg [.p false (iI a0.f0), .p false (iI a0.f1), .hv 2 (xw 2)]))]) rfl 1000 [.callW C1 [(0, 2)], .fin] (oa (scw_ C1) on) (by kernel_rfl)
def laws_markWindow.con (k : Nat) (a0 : S29) (a1 : Int) (r : Int × List Int) (h : laws_markWindow.f k a0 a1 = some r) : WCon prog := ⟨25, [.t (.agg [.p false (iI a0.f0), .p false (iI a0.f1), .h 2]), .t (.c (.p false (iI a1)))], laws_markWindow.cin a0, laws_markWindow.cout r, .int .i64 r.1, rfl, laws_markWindow.okW k a0 a1 r h, laws_markWindow.go⟩
def laws_markWayS.h0T (xw : Nat → Value) (v8 : Int) (v9 : Int) (v7 : List S53) : List (Nat × AV) := [(0, .t (.c (.hv 0 (xw 0)))), (1, .t (.c (.p false (iI v8)))), (5, .t (.c (.p true (iI v9))))]
def laws_markWayS.h0H (xw : Nat → Value) (v8 : Int) (v9 : Int) (v7 : List S53) : List (Nat × Content) := [(0, NC 53 3 S53.f0 (Value.int .i64) z53 0 v7)]
def laws_markWayS.l0 : Nat → List S53 → Int → Int → Option (Int × List S53)
 | 0, _, _, _ => none
 | kq + 1, v7, v8, v9 => if v9 < (v7.length : Int) then (if 0 ≤ v9 then ((laws_markIntS.f kq ((v7.getD v9.toNat z53).f0) v8).bind fun t10 => laws_markWayS.l0 kq  (v7.set v9.toNat (⟨t10.2⟩ : S53)) t10.1 (w64 (v9 + 1))) else none) else (some (v8, v7))
def laws_markWayS.f (k : Nat) (a0 : List S53) (a1 : Int) : Option (Int × List S53) := laws_markWayS.l0 k  a0 a1 0
theorem laws_markWayS.go : Callable prog 67 := ⟨_, func67, by kernel_rfl, rfl⟩
def laws_markWayS.cin (a0 : List S53) : List (Nat × Content) := [(0, NC 53 3 S53.f0 (Value.int .i64) z53 0 a0)]
def laws_markWayS.cout (r : Int × List S53) : List (Nat × Content) := [(0, NC 53 3 S53.f0 (Value.int .i64) z53 0 r.2)]
theorem laws_markWayS.flat (r : Int × List S53) : ∀ p ∈ laws_markWayS.cout r, flatP p.2 := (flatP_cons trivial flatP_nil)
theorem laws_markWayS.okW (k : Nat) (a0 : List S53) (a1 : Int) (r : Int × List S53) (h : laws_markWayS.f k a0 a1 = some r) : WOk prog 67 [.t (.c (.hn 0)), .t (.c (.p false (iI a1)))] (laws_markWayS.cin a0) (laws_markWayS.cout r) (.int .i64 r.1) := by
 unfold laws_markWayS.f at h
 refine WOk.of (fn := f67) (N := 20) func67 rfl rfl rfl rfl rfl (laws_markWayS.flat r) (fun w0 xw hB hQ => ?_)
 have H0 : ∀ (kq : Nat) (v7 : List S53) (v8 : Int) (v9 : Int), laws_markWayS.l0 kq  v7 v8 v9 = some r → AG prog 67 20 [.c (.p (iI r.1))] w0 (headStk (codeOf f67) 0) (mkFS (laws_markWayS.h0T xw v8 v9 v7) (laws_markWayS.h0H xw v8 v9 v7)) := by
  intro kq
  induction kq with
  | zero => intro v7 v8 v9 h; cases h
  | succ kq ih =>
    intro v7 v8 v9 h
    rw [laws_markWayS.l0] at h
    by_cases c8 : v9 < (v7.length : Int)
    ·replace h := ip c8 h
     obtain ⟨c9, h⟩ := ifN h
     obtain ⟨t10, g10, h⟩ := bindN h
     let C10 := laws_markIntS.con kq ((v7.getD v9.toNat z53).f0) v8 t10 g10
     exact hd func67 [.b true, .callI C10, .aft 18, nrow 0 S53.f0 (Value.int .i64) z53 0 (v7.set v9.toNat (⟨t10.2⟩ : S53)), .fin] (oT c8 (o1 c9 (o1 c8 (o1 (rfl : C10.f = C10.f) (o1 (rfl : List.length ((v7.getD v9.toNat z53).f0) = List.length ((v7.getD v9.toNat z53).f0)) (o1 (innerEq (Value.int .i64) 0 ((v7.getD v9.toNat z53).f0)) (o1 (SC.of (e := (eI .i64)) (d := 0) t10.2 (by intro x; rfl)) (o1 (VE.refl (iI v8)) (o1 (GEN.set S53.f0 (Value.int .i64) z53 0 v7 v9.toNat (⟨t10.2⟩ : S53) (lt_toNat c9 c8) rfl (fun _ => rfl)) on))))))))) (ih (v7.set v9.toNat (⟨t10.2⟩ : S53)) t10.1 (w64 (v9 + 1)) h)
    ·replace h := iq c8 h
     cases h
     exact byRetW MX func67 hB hQ (laws_markWayS.flat _) (T := [(0, .t (.c (.hv 0 (xw 0))))]) rfl 1000 [.b false, .fin, .fin] (oF c8 on) (by kernel_rfl)
 exact hd func67 [.fin] on (H0 k a0 a1 0 h)
def laws_markWayS.con (k : Nat) (a0 : List S53) (a1 : Int) (r : Int × List S53) (h : laws_markWayS.f k a0 a1 = some r) : WCon prog := ⟨67, [.t (.c (.hn 0)), .t (.c (.p false (iI a1)))], laws_markWayS.cin a0, laws_markWayS.cout r, .int .i64 r.1, rfl, laws_markWayS.okW k a0 a1 r h, laws_markWayS.go⟩
def laws_markPlan.f (k : Nat) (a0 : S32) (a1 : Int) : Option (Int × List S53) := (laws_markWayS.f k a0.f2 a1).bind fun t1 => some (t1.1, t1.2)
theorem laws_markPlan.go : Callable prog 26 := ⟨_, func26, by kernel_rfl, rfl⟩
def laws_markPlan.cin (a0 : S32) : List (Nat × Content) := [(2, NC 53 3 S53.f0 (Value.int .i64) z53 0 a0.f2)]
def laws_markPlan.cout (r : Int × List S53) : List (Nat × Content) := [(2, NC 53 3 S53.f0 (Value.int .i64) z53 0 r.2)]
theorem laws_markPlan.flat (r : Int × List S53) : ∀ p ∈ laws_markPlan.cout r, flatP p.2 := (flatP_cons trivial flatP_nil)
theorem laws_markPlan.okW (k : Nat) (a0 : S32) (a1 : Int) (r : Int × List S53) (h : laws_markPlan.f k a0 a1 = some r) : WOk prog 26 [.t (.agg [.p false (iI a0.f0), .p false (iI a0.f1), .hn 2]), .t (.c (.p false (iI a1)))] (laws_markPlan.cin a0) (laws_markPlan.cout r) (.int .i64 r.1) := by
 unfold laws_markPlan.f at h
 refine WOk.of (fn := f26) (N := 10) func26 rfl rfl rfl rfl rfl (laws_markPlan.flat r) (fun w0 xw hB hQ => ?_)
 obtain ⟨t1, g1, h⟩ := bindN h
 let C1 := laws_markWayS.con k a0.f2 a1 t1 g1
 cases h
 exact byRetW MX func26 hB hQ (laws_markPlan.flat _) (T := [(0, .t (.agg [.p false (iI a0.f0), .p false (iI a0.f1), .hv 2 (xw 2)]))]) rfl 1000 [.callW C1 [(0, 2)], .fin] (oa (scw_ C1) on) (by kernel_rfl)
def laws_markPlan.con (k : Nat) (a0 : S32) (a1 : Int) (r : Int × List S53) (h : laws_markPlan.f k a0 a1 = some r) : WCon prog := ⟨26, [.t (.agg [.p false (iI a0.f0), .p false (iI a0.f1), .hn 2]), .t (.c (.p false (iI a1)))], laws_markPlan.cin a0, laws_markPlan.cout r, .int .i64 r.1, rfl, laws_markPlan.okW k a0 a1 r h, laws_markPlan.go⟩
def laws_markJobS.h0T (xw : Nat → Value) (v5 : Int) (v6 : Int) (v4 : List S55) : List (Nat × AV) := [(0, .t (.c (.hv 0 (xw 0)))), (1, .t (.c (.p false (iI v5)))), (5, .t (.c (.p true (iI v6))))]
def laws_markJobS.h0H (xw : Nat → Value) (v5 : Int) (v6 : Int) (v4 : List S55) : List (Nat × Content) := [(0, .row 55 3 v4.length (fun j => e55 (v4.getD j z55)) true)]
def laws_markJobS.l0 : Nat → List S55 → Int → Int → Option (Int × List S55)
 | 0, _, _, _ => none
 | kq + 1, v4, v5, v6 => if v6 < (v4.length : Int) then (if 0 ≤ v6 then (laws_markJobS.l0 kq  (v4.set v6.toNat (⟨v5, (w64 (v5 + 1)), (decide (((w64 ((w64 (v5 + 1)) + 1)).tmod 3) = 0))⟩ : S55)) (w64 ((w64 ((w64 (v5 + 1)) + 1)) + 1)) (w64 (v6 + 1))) else none) else (some (v5, v4))
def laws_markJobS.f (k : Nat) (a0 : List S55) (a1 : Int) : Option (Int × List S55) := laws_markJobS.l0 k  a0 a1 0
theorem laws_markJobS.go : Callable prog 27 := ⟨_, func27, by kernel_rfl, rfl⟩
def laws_markJobS.cin (a0 : List S55) : List (Nat × Content) := [(0, .row 55 3 a0.length (fun j => e55 (a0.getD j z55)) true)]
def laws_markJobS.cout (r : Int × List S55) : List (Nat × Content) := [(0, .row 55 3 r.2.length (fun j => e55 (r.2.getD j z55)) true)]
theorem laws_markJobS.flat (r : Int × List S55) : ∀ p ∈ laws_markJobS.cout r, flatP p.2 := (flatP_cons (SC.of (e := e55) (d := z55) r.2 (by intro x; rfl)) flatP_nil)
theorem laws_markJobS.okW (k : Nat) (a0 : List S55) (a1 : Int) (r : Int × List S55) (h : laws_markJobS.f k a0 a1 = some r) : WOk prog 27 [.t (.c (.h 0)), .t (.c (.p false (iI a1)))] (laws_markJobS.cin a0) (laws_markJobS.cout r) (.int .i64 r.1) := by
 unfold laws_markJobS.f at h
 refine WOk.of (fn := f27) (N := 36) func27 rfl rfl rfl rfl rfl (laws_markJobS.flat r) (fun w0 xw hB hQ => ?_)
 have H0 : ∀ (kq : Nat) (v4 : List S55) (v5 : Int) (v6 : Int), laws_markJobS.l0 kq  v4 v5 v6 = some r → AG prog 27 36 [.c (.p (iI r.1))] w0 (headStk (codeOf f27) 0) (mkFS (laws_markJobS.h0T xw v5 v6 v4) (laws_markJobS.h0H xw v5 v6 v4)) := by
  intro kq
  induction kq with
  | zero => intro v4 v5 v6 h; cases h
  | succ kq ih =>
    intro v4 v5 v6 h
    rw [laws_markJobS.l0] at h
    by_cases c5 : v6 < (v4.length : Int)
    ·replace h := ip c5 h
     obtain ⟨c6, h⟩ := ifN h
     exact hd func27 [.b true, .aft 999999, orow 0 e55 z55 (v4.set v6.toNat (⟨v5, (rdD z55 v4 v6).f1, (rdD z55 v4 v6).f2⟩ : S55)), .aft 999999, orow 0 e55 z55 (v4.set v6.toNat (⟨v5, (w64 (v5 + 1)), (rdD z55 v4 v6).f2⟩ : S55)), .aft 999999, orow 0 e55 z55 (v4.set v6.toNat (⟨v5, (w64 (v5 + 1)), (decide (((w64 ((w64 (v5 + 1)) + 1)).tmod 3) = 0))⟩ : S55)), .fin] (oT c5 (o1 c6 (o1 c5 (o1 (GE.set (e := e55) (d := z55) v4 v6.toNat (⟨v5, (rdD z55 v4 v6).f1, (rdD z55 v4 v6).f2⟩ : S55) (lt_toNat c6 c5) rfl) (o1 c6 (o1 (lt_set (k := v6.toNat) (v := (⟨v5, (rdD z55 v4 v6).f1, (rdD z55 v4 v6).f2⟩ : S55)) c5) (o1 (GE.set2 (e := e55) (d := z55) v4 v6.toNat (⟨v5, (rdD z55 v4 v6).f1, (rdD z55 v4 v6).f2⟩ : S55) (⟨v5, (w64 (v5 + 1)), (rdD z55 v4 v6).f2⟩ : S55) (lt_toNat c6 c5) (f := fun u => splice u 1 [.sc (.int .i64 (w64 (v5 + 1)))]) rfl) (o1 (by decide : (3 : Int) ≠ 0) (o1 c6 (o1 (lt_set (k := v6.toNat) (v := (⟨v5, (w64 (v5 + 1)), (rdD z55 v4 v6).f2⟩ : S55)) c5) (o1 (GE.set2 (e := e55) (d := z55) v4 v6.toNat (⟨v5, (w64 (v5 + 1)), (rdD z55 v4 v6).f2⟩ : S55) (⟨v5, (w64 (v5 + 1)), (decide (((w64 ((w64 (v5 + 1)) + 1)).tmod 3) = 0))⟩ : S55) (lt_toNat c6 c5) (f := fun u => splice u 2 [.sc (.bool (decide (((w64 ((w64 (v5 + 1)) + 1)).tmod 3) = 0)))]) rfl) on))))))))))) (ih (v4.set v6.toNat (⟨v5, (w64 (v5 + 1)), (decide (((w64 ((w64 (v5 + 1)) + 1)).tmod 3) = 0))⟩ : S55)) (w64 ((w64 ((w64 (v5 + 1)) + 1)) + 1)) (w64 (v6 + 1)) h)
    ·replace h := iq c5 h
     cases h
     exact byRetW MX func27 hB hQ (laws_markJobS.flat _) (T := [(0, .t (.c (.hv 0 (xw 0))))]) rfl 1000 [.b false, .fin, .fin] (oF c5 on) (by kernel_rfl)
 exact hd func27 [.fin] on (H0 k a0 a1 0 h)
def laws_markJobS.con (k : Nat) (a0 : List S55) (a1 : Int) (r : Int × List S55) (h : laws_markJobS.f k a0 a1 = some r) : WCon prog := ⟨27, [.t (.c (.h 0)), .t (.c (.p false (iI a1)))], laws_markJobS.cin a0, laws_markJobS.cout r, .int .i64 r.1, rfl, laws_markJobS.okW k a0 a1 r h, laws_markJobS.go⟩
def laws_markYard.f (k : Nat) (a0 : S35) (a1 : Int) : Option (Int × List S51 × List Int × List S53 × List S55 × List Int) := (laws_markRobotS.f k a0.f1 a1).bind fun t1 => (laws_markWindow.f k a0.f2 t1.1).bind fun t2 => (laws_markPlan.f k a0.f5 t2.1).bind fun t3 => (laws_markJobS.f k a0.f6 t3.1).bind fun t4 => (laws_markIntS.f k a0.f7 t4.1).bind fun t5 => some (t5.1, t1.2, t2.2, t3.2, t4.2, t5.2)
theorem laws_markYard.go : Callable prog 10 := ⟨_, func10, by kernel_rfl, rfl⟩
def laws_markYard.cin (a0 : S35) : List (Nat × Content) := [(7, .row 51 4 a0.f1.length (fun j => e51 (a0.f1.getD j z51)) true), (10, .row 3 1 a0.f2.f2.length (fun j => (eI .i64) (a0.f2.f2.getD j 0)) true), (15, NC 53 3 S53.f0 (Value.int .i64) z53 0 a0.f5.f2), (16, .row 55 3 a0.f6.length (fun j => e55 (a0.f6.getD j z55)) true), (17, .row 3 1 a0.f7.length (fun j => (eI .i64) (a0.f7.getD j 0)) true)]
def laws_markYard.cout (r : Int × List S51 × List Int × List S53 × List S55 × List Int) : List (Nat × Content) := [(7, .row 51 4 r.2.1.length (fun j => e51 (r.2.1.getD j z51)) true), (10, .row 3 1 r.2.2.1.length (fun j => (eI .i64) (r.2.2.1.getD j 0)) true), (15, NC 53 3 S53.f0 (Value.int .i64) z53 0 r.2.2.2.1), (16, .row 55 3 r.2.2.2.2.1.length (fun j => e55 (r.2.2.2.2.1.getD j z55)) true), (17, .row 3 1 r.2.2.2.2.2.length (fun j => (eI .i64) (r.2.2.2.2.2.getD j 0)) true)]
theorem laws_markYard.flat (r : Int × List S51 × List Int × List S53 × List S55 × List Int) : ∀ p ∈ laws_markYard.cout r, flatP p.2 := (flatP_cons (SC.of (e := e51) (d := z51) r.2.1 (by intro x; rfl)) (flatP_cons (SC.of (e := (eI .i64)) (d := 0) r.2.2.1 (by intro x; rfl)) (flatP_cons trivial (flatP_cons (SC.of (e := e55) (d := z55) r.2.2.2.2.1 (by intro x; rfl)) (flatP_cons (SC.of (e := (eI .i64)) (d := 0) r.2.2.2.2.2 (by intro x; rfl)) flatP_nil)))))
theorem laws_markYard.okW (k : Nat) (a0 : S35) (a1 : Int) (r : Int × List S51 × List Int × List S53 × List S55 × List Int) (h : laws_markYard.f k a0 a1 = some r) : WOk prog 10 [.t (.agg [.p false (iI a0.f0.f0.f0), .p false (iI a0.f0.f0.f1), .p false (.sc (.string a0.f0.f0.f2)), .p false (iI a0.f0.f1), .p false (iI a0.f0.f2), .p false (iI a0.f0.f3), .p false (iI a0.f0.f4), .h 7, .p false (iI a0.f2.f0), .p false (iI a0.f2.f1), .h 10, .p false (iI a0.f3), .p false (.sc (.bool a0.f4)), .p false (iI a0.f5.f0), .p false (iI a0.f5.f1), .hn 15, .h 16, .h 17]), .t (.c (.p false (iI a1)))] (laws_markYard.cin a0) (laws_markYard.cout r) (.int .i64 r.1) := by
 unfold laws_markYard.f at h
 refine WOk.of (fn := f10) (N := 26) func10 rfl rfl rfl rfl rfl (laws_markYard.flat r) (fun w0 xw hB hQ => ?_)
 obtain ⟨t1, g1, h⟩ := bindN h
 let C1 := laws_markRobotS.con k a0.f1 a1 t1 g1
 obtain ⟨t2, g2, h⟩ := bindN h
 let C2 := laws_markWindow.con k a0.f2 t1.1 t2 g2
 obtain ⟨t3, g3, h⟩ := bindN h
 let C3 := laws_markPlan.con k a0.f5 t2.1 t3 g3
 obtain ⟨t4, g4, h⟩ := bindN h
 let C4 := laws_markJobS.con k a0.f6 t3.1 t4 g4
 obtain ⟨t5, g5, h⟩ := bindN h
 let C5 := laws_markIntS.con k a0.f7 t4.1 t5 g5
 cases h
 exact byRetW MX func10 hB hQ (laws_markYard.flat _) (T := [(0, .t (.agg [.p false (iI a0.f0.f0.f0), .p false (iI a0.f0.f0.f1), .p false (.sc (.string a0.f0.f0.f2)), .p false (iI a0.f0.f1), .p false (iI a0.f0.f2), .p false (iI a0.f0.f3), .p false (iI a0.f0.f4), .hv 7 (xw 7), .p false (iI a0.f2.f0), .p false (iI a0.f2.f1), .hv 10 (xw 10), .p false (iI a0.f3), .p false (.sc (.bool a0.f4)), .p false (iI a0.f5.f0), .p false (iI a0.f5.f1), .hv 15 (xw 15), .hv 16 (xw 16), .hv 17 (xw 17)]))]) rfl 1000 [.callW C1 [(0, 7)], .callW C2 [(2, 10)], .callW C3 [(2, 15)], .callW C4 [(0, 16)], .callW C5 [(0, 17)], .fin] (oa (scw_ C1) (oa (scw_ C2) (oa (scw_ C3) (oa (scw_ C4) (oa (scw_ C5) on))))) (by kernel_rfl)
def laws_markYard.con (k : Nat) (a0 : S35) (a1 : Int) (r : Int × List S51 × List Int × List S53 × List S55 × List Int) (h : laws_markYard.f k a0 a1 = some r) : WCon prog := ⟨10, [.t (.agg [.p false (iI a0.f0.f0.f0), .p false (iI a0.f0.f0.f1), .p false (.sc (.string a0.f0.f0.f2)), .p false (iI a0.f0.f1), .p false (iI a0.f0.f2), .p false (iI a0.f0.f3), .p false (iI a0.f0.f4), .h 7, .p false (iI a0.f2.f0), .p false (iI a0.f2.f1), .h 10, .p false (iI a0.f3), .p false (.sc (.bool a0.f4)), .p false (iI a0.f5.f0), .p false (iI a0.f5.f1), .hn 15, .h 16, .h 17]), .t (.c (.p false (iI a1)))], laws_markYard.cin a0, laws_markYard.cout r, .int .i64 r.1, rfl, laws_markYard.okW k a0 a1 r h, laws_markYard.go⟩
def laws_heldRobotS.h0T (a0 : List S51) (v2 : Int) (v3 : Int) : List (Nat × AV) := [(0, .t (.c (.p false (R 4 e51 z51 a0)))), (1, .t (.c (.p false (iI v2)))), (5, .t (.c (.p true (iI v3))))]
def laws_heldRobotS.h0H (a0 : List S51) (v2 : Int) (v3 : Int) : List (Nat × Content) := []
def laws_heldRobotS.l0 : Nat → List S51 → Int → Int → Option Int
 | 0, _, _, _ => none
 | kq + 1, a0, v2, v3 => if v3 < (a0.length : Int) then (if 0 ≤ v3 then (if (rdD z51 a0 v3).f0 = v2 then (if (rdD z51 a0 v3).f1 = (w64 (v2 + 1)) then (if (rdD z51 a0 v3).f2 = (w64 ((w64 (v2 + 1)) + 1)) then (if ((rdD z51 a0 v3).f3 == (decide (((w64 ((w64 ((w64 (v2 + 1)) + 1)) + 1)).tmod 3) = 0))) = true then (laws_heldRobotS.l0 kq a0 (w64 ((w64 ((w64 ((w64 (v2 + 1)) + 1)) + 1)) + 1)) (w64 (v3 + 1))) else (some (-1))) else (some (-1))) else (some (-1))) else (some (-1))) else none) else (some v2)
def laws_heldRobotS.f (k : Nat) (a0 : List S51) (a1 : Int) : Option Int := laws_heldRobotS.l0 k a0 a1 0
theorem laws_heldRobotS.go : Callable prog 28 := ⟨_, func28, by kernel_rfl, rfl⟩
theorem laws_heldRobotS.ok (k : Nat) (a0 : List S51) (a1 : Int) (r : Int) (h : laws_heldRobotS.f k a0 a1 = some r) : VCalls prog 28 [.c (R 4 e51 z51 a0), .c (iI a1)] [.c (.p (iI r))] := by
 unfold laws_heldRobotS.f at h
 refine VCalls.of (fn := f28) (N := 51) func28 rfl rfl (fun w0 => ?_)
 have H0 : ∀ (kq : Nat) (v2 : Int) (v3 : Int), laws_heldRobotS.l0 kq a0 v2 v3 = some r → AG prog 28 51 [.c (.p (iI r))] w0 (headStk (codeOf f28) 0) (mkFS (laws_heldRobotS.h0T a0 v2 v3) (laws_heldRobotS.h0H a0 v2 v3)) := by
  intro kq
  induction kq with
  | zero => intro v2 v3 h; cases h
  | succ kq ih =>
    intro v2 v3 h
    rw [laws_heldRobotS.l0] at h
    by_cases c11 : v3 < (a0.length : Int)
    ·replace h := ip c11 h
     obtain ⟨c12, h⟩ := ifN h
     by_cases c13 : (rdD z51 a0 v3).f0 = v2
     ·replace h := ip c13 h
      by_cases c14 : (rdD z51 a0 v3).f1 = (w64 (v2 + 1))
      ·replace h := ip c14 h
       by_cases c15 : (rdD z51 a0 v3).f2 = (w64 ((w64 (v2 + 1)) + 1))
       ·replace h := ip c15 h
        by_cases c16 : ((rdD z51 a0 v3).f3 == (decide (((w64 ((w64 ((w64 (v2 + 1)) + 1)) + 1)).tmod 3) = 0))) = true
        ·replace h := ip c16 h
         exact hd func28 [.b true, .b false, .b false, .b false, .b false, .fin] (oT c11 (o1 c12 (o1 c11 (o1 (bnf (decide_eq_true c13)) (o1 c12 (o1 c11 (o1 (bnf (decide_eq_true c14)) (o1 c12 (o1 c11 (o1 (bnf (decide_eq_true c15)) (o1 c12 (o1 c11 (o1 (by decide : (3 : Int) ≠ 0) (o1 (bnf c16) on)))))))))))))) (ih (w64 ((w64 ((w64 ((w64 (v2 + 1)) + 1)) + 1)) + 1)) (w64 (v3 + 1)) h)
        ·replace h := iq c16 h
         cases h
         exact rt func28 [.b true, .b false, .b false, .b false, .b true, .fin] (oT c11 (o1 c12 (o1 c11 (o1 (bnf (decide_eq_true c13)) (o1 c12 (o1 c11 (o1 (bnf (decide_eq_true c14)) (o1 c12 (o1 c11 (o1 (bnf (decide_eq_true c15)) (o1 c12 (o1 c11 (o1 (by decide : (3 : Int) ≠ 0) (oN c16 on))))))))))))))
       ·replace h := iq c15 h
        cases h
        exact rt func28 [.b true, .b false, .b false, .b true, .fin] (oT c11 (o1 c12 (o1 c11 (o1 (bnf (decide_eq_true c13)) (o1 c12 (o1 c11 (o1 (bnf (decide_eq_true c14)) (o1 c12 (o1 c11 (o1 (bnt (decide_eq_false c15)) on))))))))))
      ·replace h := iq c14 h
       cases h
       exact rt func28 [.b true, .b false, .b true, .fin] (oT c11 (o1 c12 (o1 c11 (o1 (bnf (decide_eq_true c13)) (o1 c12 (o1 c11 (o1 (bnt (decide_eq_false c14)) on)))))))
     ·replace h := iq c13 h
      cases h
      exact rt func28 [.b true, .b true, .fin] (oT c11 (o1 c12 (o1 c11 (o1 (bnt (decide_eq_false c13)) on))))
    ·replace h := iq c11 h
     cases h
     exact rt func28 [.b false, .fin, .fin] (oF c11 on)
 exact hd func28 [.fin] on (H0 k a1 0 h)
def laws_heldIntS.h0T (a0 : List Int) (v2 : Int) (v3 : Int) : List (Nat × AV) := [(0, .t (.c (.p false (R 1 (eI .i64) 0 a0)))), (1, .t (.c (.p false (iI v2)))), (5, .t (.c (.p true (iI v3))))]
def laws_heldIntS.h0H (a0 : List Int) (v2 : Int) (v3 : Int) : List (Nat × Content) := []
def laws_heldIntS.l0 : Nat → List Int → Int → Int → Option Int
 | 0, _, _, _ => none
 | kq + 1, a0, v2, v3 => if v3 < (a0.length : Int) then (if 0 ≤ v3 then (if (rdD 0 a0 v3) = v2 then (laws_heldIntS.l0 kq a0 (w64 (v2 + 1)) (w64 (v3 + 1))) else (some (-1))) else none) else (some v2)
def laws_heldIntS.f (k : Nat) (a0 : List Int) (a1 : Int) : Option Int := laws_heldIntS.l0 k a0 a1 0
theorem laws_heldIntS.go : Callable prog 32 := ⟨_, func32, by kernel_rfl, rfl⟩
theorem laws_heldIntS.ok (k : Nat) (a0 : List Int) (a1 : Int) (r : Int) (h : laws_heldIntS.f k a0 a1 = some r) : VCalls prog 32 [.c (R 1 (eI .i64) 0 a0), .c (iI a1)] [.c (.p (iI r))] := by
 unfold laws_heldIntS.f at h
 refine VCalls.of (fn := f32) (N := 21) func32 rfl rfl (fun w0 => ?_)
 have H0 : ∀ (kq : Nat) (v2 : Int) (v3 : Int), laws_heldIntS.l0 kq a0 v2 v3 = some r → AG prog 32 21 [.c (.p (iI r))] w0 (headStk (codeOf f32) 0) (mkFS (laws_heldIntS.h0T a0 v2 v3) (laws_heldIntS.h0H a0 v2 v3)) := by
  intro kq
  induction kq with
  | zero => intro v2 v3 h; cases h
  | succ kq ih =>
    intro v2 v3 h
    rw [laws_heldIntS.l0] at h
    by_cases c5 : v3 < (a0.length : Int)
    ·replace h := ip c5 h
     obtain ⟨c6, h⟩ := ifN h
     by_cases c7 : (rdD 0 a0 v3) = v2
     ·replace h := ip c7 h
      exact hd func32 [.b true, .b false, .fin] (oT c5 (o1 c6 (o1 c5 (o1 (bnf (decide_eq_true c7)) on)))) (ih (w64 (v2 + 1)) (w64 (v3 + 1)) h)
     ·replace h := iq c7 h
      cases h
      exact rt func32 [.b true, .b true, .fin] (oT c5 (o1 c6 (o1 c5 (o1 (bnt (decide_eq_false c7)) on))))
    ·replace h := iq c5 h
     cases h
     exact rt func32 [.b false, .fin, .fin] (oF c5 on)
 exact hd func32 [.fin] on (H0 k a1 0 h)
def laws_heldWindow.f (k : Nat) (a0 : S29) (a1 : Int) : Option Int := (laws_heldIntS.f k a0.f2 a1).bind fun t1 => if t1 < 0 then (some (-1)) else (some t1)
theorem laws_heldWindow.go : Callable prog 29 := ⟨_, func29, by kernel_rfl, rfl⟩
theorem laws_heldWindow.ok (k : Nat) (a0 : S29) (a1 : Int) (r : Int) (h : laws_heldWindow.f k a0 a1 = some r) : VCalls prog 29 [.agg (e29 a0), .c (iI a1)] [.c (.p (iI r))] := by
 unfold laws_heldWindow.f at h
 refine VCalls.of (fn := f29) (N := 12) func29 rfl rfl (fun w0 => ?_)
 obtain ⟨t1, g1, h⟩ := bindN h
 let C1 := mkCon (laws_heldIntS.ok k a0.f2 a1 t1 g1) laws_heldIntS.go
 by_cases c2 : t1 < 0
 ·replace h := ip c2 h
  cases h
  exact rt func29 [.call C1, .b true, .fin] (oc C1 (oT c2 on))
 ·replace h := iq c2 h
  cases h
  exact rt func29 [.call C1, .b false, .fin] (oc C1 (oF c2 on))
def laws_heldWayS.h0T (a0 : List S53) (v4 : Int) (v5 : Int) : List (Nat × AV) := [(0, .t (.c (.p false (R 1 e53 z53 a0)))), (1, .t (.c (.p false (iI v4)))), (5, .t (.c (.p true (iI v5))))]
def laws_heldWayS.h0H (a0 : List S53) (v4 : Int) (v5 : Int) : List (Nat × Content) := []
def laws_heldWayS.l0 : Nat → List S53 → Int → Int → Option Int
 | 0, _, _, _ => none
 | kq + 1, a0, v4, v5 => if v5 < (a0.length : Int) then (if 0 ≤ v5 then ((laws_heldIntS.f kq ((rdD z53 a0 v5).f0) v4).bind fun t6 => if t6 < 0 then (some (-1)) else (laws_heldWayS.l0 kq a0 t6 (w64 (v5 + 1)))) else none) else (some v4)
def laws_heldWayS.f (k : Nat) (a0 : List S53) (a1 : Int) : Option Int := laws_heldWayS.l0 k a0 a1 0
theorem laws_heldWayS.go : Callable prog 68 := ⟨_, func68, by kernel_rfl, rfl⟩
theorem laws_heldWayS.ok (k : Nat) (a0 : List S53) (a1 : Int) (r : Int) (h : laws_heldWayS.f k a0 a1 = some r) : VCalls prog 68 [.c (R 1 e53 z53 a0), .c (iI a1)] [.c (.p (iI r))] := by
 unfold laws_heldWayS.f at h
 refine VCalls.of (fn := f68) (N := 22) func68 rfl rfl (fun w0 => ?_)
 have H0 : ∀ (kq : Nat) (v4 : Int) (v5 : Int), laws_heldWayS.l0 kq a0 v4 v5 = some r → AG prog 68 22 [.c (.p (iI r))] w0 (headStk (codeOf f68) 0) (mkFS (laws_heldWayS.h0T a0 v4 v5) (laws_heldWayS.h0H a0 v4 v5)) := by
  intro kq
  induction kq with
  | zero => intro v4 v5 h; cases h
  | succ kq ih =>
    intro v4 v5 h
    rw [laws_heldWayS.l0] at h
    by_cases c7 : v5 < (a0.length : Int)
    ·replace h := ip c7 h
     obtain ⟨c8, h⟩ := ifN h
     obtain ⟨t6, g9, h⟩ := bindN h
     let C9 := mkCon (laws_heldIntS.ok kq ((rdD z53 a0 v5).f0) v4 t6 g9) laws_heldIntS.go
     by_cases c10 : t6 < 0
     ·replace h := ip c10 h
      cases h
      exact rt func68 [.b true, .call C9, .b true, .fin] (oT c7 (o1 c8 (o1 c7 (oc C9 (oT c10 on)))))
     ·replace h := iq c10 h
      exact hd func68 [.b true, .call C9, .b false, .fin] (oT c7 (o1 c8 (o1 c7 (oc C9 (oF c10 on))))) (ih t6 (w64 (v5 + 1)) h)
    ·replace h := iq c7 h
     cases h
     exact rt func68 [.b false, .fin, .fin] (oF c7 on)
 exact hd func68 [.fin] on (H0 k a1 0 h)
def laws_heldPlan.f (k : Nat) (a0 : S32) (a1 : Int) : Option Int := (laws_heldWayS.f k a0.f2 a1).bind fun t1 => if t1 < 0 then (some (-1)) else (some t1)
theorem laws_heldPlan.go : Callable prog 30 := ⟨_, func30, by kernel_rfl, rfl⟩
theorem laws_heldPlan.ok (k : Nat) (a0 : S32) (a1 : Int) (r : Int) (h : laws_heldPlan.f k a0 a1 = some r) : VCalls prog 30 [.agg (e32 a0), .c (iI a1)] [.c (.p (iI r))] := by
 unfold laws_heldPlan.f at h
 refine VCalls.of (fn := f30) (N := 12) func30 rfl rfl (fun w0 => ?_)
 obtain ⟨t1, g1, h⟩ := bindN h
 let C1 := mkCon (laws_heldWayS.ok k a0.f2 a1 t1 g1) laws_heldWayS.go
 by_cases c2 : t1 < 0
 ·replace h := ip c2 h
  cases h
  exact rt func30 [.call C1, .b true, .fin] (oc C1 (oT c2 on))
 ·replace h := iq c2 h
  cases h
  exact rt func30 [.call C1, .b false, .fin] (oc C1 (oF c2 on))
def laws_heldJobS.h0T (a0 : List S55) (v2 : Int) (v3 : Int) : List (Nat × AV) := [(0, .t (.c (.p false (R 3 e55 z55 a0)))), (1, .t (.c (.p false (iI v2)))), (5, .t (.c (.p true (iI v3))))]
def laws_heldJobS.h0H (a0 : List S55) (v2 : Int) (v3 : Int) : List (Nat × Content) := []
def laws_heldJobS.l0 : Nat → List S55 → Int → Int → Option Int
 | 0, _, _, _ => none
 | kq + 1, a0, v2, v3 => if v3 < (a0.length : Int) then (if 0 ≤ v3 then (if (rdD z55 a0 v3).f0 = v2 then (if (rdD z55 a0 v3).f1 = (w64 (v2 + 1)) then (if ((rdD z55 a0 v3).f2 == (decide (((w64 ((w64 (v2 + 1)) + 1)).tmod 3) = 0))) = true then (laws_heldJobS.l0 kq a0 (w64 ((w64 ((w64 (v2 + 1)) + 1)) + 1)) (w64 (v3 + 1))) else (some (-1))) else (some (-1))) else (some (-1))) else none) else (some v2)
def laws_heldJobS.f (k : Nat) (a0 : List S55) (a1 : Int) : Option Int := laws_heldJobS.l0 k a0 a1 0
theorem laws_heldJobS.go : Callable prog 31 := ⟨_, func31, by kernel_rfl, rfl⟩
theorem laws_heldJobS.ok (k : Nat) (a0 : List S55) (a1 : Int) (r : Int) (h : laws_heldJobS.f k a0 a1 = some r) : VCalls prog 31 [.c (R 3 e55 z55 a0), .c (iI a1)] [.c (.p (iI r))] := by
 unfold laws_heldJobS.f at h
 refine VCalls.of (fn := f31) (N := 42) func31 rfl rfl (fun w0 => ?_)
 have H0 : ∀ (kq : Nat) (v2 : Int) (v3 : Int), laws_heldJobS.l0 kq a0 v2 v3 = some r → AG prog 31 42 [.c (.p (iI r))] w0 (headStk (codeOf f31) 0) (mkFS (laws_heldJobS.h0T a0 v2 v3) (laws_heldJobS.h0H a0 v2 v3)) := by
  intro kq
  induction kq with
  | zero => intro v2 v3 h; cases h
  | succ kq ih =>
    intro v2 v3 h
    rw [laws_heldJobS.l0] at h
    by_cases c9 : v3 < (a0.length : Int)
    ·replace h := ip c9 h
     obtain ⟨c10, h⟩ := ifN h
     by_cases c11 : (rdD z55 a0 v3).f0 = v2
     ·replace h := ip c11 h
      by_cases c12 : (rdD z55 a0 v3).f1 = (w64 (v2 + 1))
      ·replace h := ip c12 h
       by_cases c13 : ((rdD z55 a0 v3).f2 == (decide (((w64 ((w64 (v2 + 1)) + 1)).tmod 3) = 0))) = true
       ·replace h := ip c13 h
        exact hd func31 [.b true, .b false, .b false, .b false, .fin] (oT c9 (o1 c10 (o1 c9 (o1 (bnf (decide_eq_true c11)) (o1 c10 (o1 c9 (o1 (bnf (decide_eq_true c12)) (o1 c10 (o1 c9 (o1 (by decide : (3 : Int) ≠ 0) (o1 (bnf c13) on))))))))))) (ih (w64 ((w64 ((w64 (v2 + 1)) + 1)) + 1)) (w64 (v3 + 1)) h)
       ·replace h := iq c13 h
        cases h
        exact rt func31 [.b true, .b false, .b false, .b true, .fin] (oT c9 (o1 c10 (o1 c9 (o1 (bnf (decide_eq_true c11)) (o1 c10 (o1 c9 (o1 (bnf (decide_eq_true c12)) (o1 c10 (o1 c9 (o1 (by decide : (3 : Int) ≠ 0) (oN c13 on)))))))))))
      ·replace h := iq c12 h
       cases h
       exact rt func31 [.b true, .b false, .b true, .fin] (oT c9 (o1 c10 (o1 c9 (o1 (bnf (decide_eq_true c11)) (o1 c10 (o1 c9 (o1 (bnt (decide_eq_false c12)) on)))))))
     ·replace h := iq c11 h
      cases h
      exact rt func31 [.b true, .b true, .fin] (oT c9 (o1 c10 (o1 c9 (o1 (bnt (decide_eq_false c11)) on))))
    ·replace h := iq c9 h
     cases h
     exact rt func31 [.b false, .fin, .fin] (oF c9 on)
 exact hd func31 [.fin] on (H0 k a1 0 h)
def laws_heldYard.f (k : Nat) (a0 : S35) (a1 : Int) : Option Int := (laws_heldRobotS.f k a0.f1 a1).bind fun t1 => if t1 < 0 then (some (-1)) else ((laws_heldWindow.f k a0.f2 t1).bind fun t2 => if t2 < 0 then (some (-1)) else ((laws_heldPlan.f k a0.f5 t2).bind fun t3 => if t3 < 0 then (some (-1)) else ((laws_heldJobS.f k a0.f6 t3).bind fun t4 => if t4 < 0 then (some (-1)) else ((laws_heldIntS.f k a0.f7 t4).bind fun t5 => if t5 < 0 then (some (-1)) else (some t5)))))
theorem laws_heldYard.go : Callable prog 11 := ⟨_, func11, by kernel_rfl, rfl⟩
theorem laws_heldYard.ok (k : Nat) (a0 : S35) (a1 : Int) (r : Int) (h : laws_heldYard.f k a0 a1 = some r) : VCalls prog 11 [.agg (e35 a0), .c (iI a1)] [.c (.p (iI r))] := by
 unfold laws_heldYard.f at h
 refine VCalls.of (fn := f11) (N := 36) func11 rfl rfl (fun w0 => ?_)
 obtain ⟨t1, g1, h⟩ := bindN h
 let C1 := mkCon (laws_heldRobotS.ok k a0.f1 a1 t1 g1) laws_heldRobotS.go
 by_cases c2 : t1 < 0
 ·replace h := ip c2 h
  cases h
  exact rt func11 [.call C1, .b true, .fin] (oc C1 (oT c2 on))
 ·replace h := iq c2 h
  obtain ⟨t2, g3, h⟩ := bindN h
  let C3 := mkCon (laws_heldWindow.ok k a0.f2 t1 t2 g3) laws_heldWindow.go
  by_cases c4 : t2 < 0
  ·replace h := ip c4 h
   cases h
   exact rt func11 [.call C1, .b false, .call C3, .b true, .fin] (oc C1 (oF c2 (oc C3 (oT c4 on))))
  ·replace h := iq c4 h
   obtain ⟨t3, g5, h⟩ := bindN h
   let C5 := mkCon (laws_heldPlan.ok k a0.f5 t2 t3 g5) laws_heldPlan.go
   by_cases c6 : t3 < 0
   ·replace h := ip c6 h
    cases h
    exact rt func11 [.call C1, .b false, .call C3, .b false, .call C5, .b true, .fin] (oc C1 (oF c2 (oc C3 (oF c4 (oc C5 (oT c6 on))))))
   ·replace h := iq c6 h
    obtain ⟨t4, g7, h⟩ := bindN h
    let C7 := mkCon (laws_heldJobS.ok k a0.f6 t3 t4 g7) laws_heldJobS.go
    by_cases c8 : t4 < 0
    ·replace h := ip c8 h
     cases h
     exact rt func11 [.call C1, .b false, .call C3, .b false, .call C5, .b false, .call C7, .b true, .fin] (oc C1 (oF c2 (oc C3 (oF c4 (oc C5 (oF c6 (oc C7 (oT c8 on))))))))
    ·replace h := iq c8 h
     obtain ⟨t5, g9, h⟩ := bindN h
     let C9 := mkCon (laws_heldIntS.ok k a0.f7 t4 t5 g9) laws_heldIntS.go
     by_cases c10 : t5 < 0
     ·replace h := ip c10 h
      cases h
      exact rt func11 [.call C1, .b false, .call C3, .b false, .call C5, .b false, .call C7, .b false, .call C9, .b true, .fin] (oc C1 (oF c2 (oc C3 (oF c4 (oc C5 (oF c6 (oc C7 (oF c8 (oc C9 (oT c10 on))))))))))
     ·replace h := iq c10 h
      cases h
      exact rt func11 [.call C1, .b false, .call C3, .b false, .call C5, .b false, .call C7, .b false, .call C9, .b false, .fin] (oc C1 (oF c2 (oc C3 (oF c4 (oc C5 (oF c6 (oc C7 (oF c8 (oc C9 (oF c10 on))))))))))
end Go.Proofs.YtfhjipfkaemapaaGreat.V