/- What each Go function computes, and that the machine does so: printed by a program of this session (avgen.py). -/
import Derived.Test.YtfhjipfkaemapaaGreatVT
namespace Go.Proofs.YtfhjipfkaemapaaGreat.V
open Go Go.Av Go.Proofs Go.Proofs.Tryz
set_option linter.unusedVariables false
set_option maxRecDepth 100000
def spec_l31Next.f (ql : List Int) (q1 : Int) (q2 : Bool) : Option (Int × Int × Bool) := if (ql.length : Int) ≤ q1 then (some (0, q1, true)) else (if 0 ≤ (w64 ((w64 (q1 + 1)) - 1)) then (if (w64 ((w64 (q1 + 1)) - 1)) < (ql.length : Int) then (some ((rdD 0 ql (w64 ((w64 (q1 + 1)) - 1))), (w64 (q1 + 1)), q2)) else none) else none)
theorem spec_l31Next.go : Callable prog 13 := ⟨_, func13, by kernel_rfl, rfl⟩
theorem spec_l31Next.ok (qv : Value) (ql : List Int) (q1 : Int) (q2 : Bool) (r : Int × Int × Bool) (h : spec_l31Next.f ql q1 q2 = some r) : QOk prog 13 46 [.known qv qv (R 1 (eI .i64) 0 ql), .sc (.int .i64 q1), .sc (.bool q2)] [] [.known qv qv (R 1 (eI .i64) 0 ql), .sc (.int .i64 r.2.1), .sc (.bool r.2.2)] [.c (.p (iI r.1))] := by
 unfold spec_l31Next.f at h
 refine QOk.of (fn := f13) (N := 35) func13 rfl rfl (flatRCs_of (o1 rfl on)) (fun w0 qb hB hQ => ?_)
 by_cases c1 : (ql.length : Int) ≤ q1
 ·replace h := ip c1 h
  cases h
  exact byRetB MX func13 (T := [(0, .t (.c (.hv 0 (.pointer (some ⟨qb, 0, none⟩)))))]) hQ rfl rfl 1000 [.cst 10 (R 1 (eI .i64) 0 ql), .b true, .fin] (o1 (VE.known qv (R 1 (eI .i64) 0 ql)) (oT c1 on)) (by kernel_rfl)
 ·replace h := iq c1 h
  obtain ⟨c2, h⟩ := ifN h
  obtain ⟨c3, h⟩ := ifN h
  cases h
  exact byRetB MX func13 (T := [(0, .t (.c (.hv 0 (.pointer (some ⟨qb, 0, none⟩)))))]) hQ rfl rfl 1000 [.cst 10 (R 1 (eI .i64) 0 ql), .b false, .cst 27 (R 1 (eI .i64) 0 ql), .fin] (o1 (VE.known qv (R 1 (eI .i64) 0 ql)) (oF c1 (o1 (VE.known qv (R 1 (eI .i64) 0 ql)) (o1 c2 (o1 c3 on))))) (by kernel_rfl)
def spec_l31Next.con (qv : Value) (ql : List Int) (q1 : Int) (q2 : Bool) (r : Int × Int × Bool) (h : spec_l31Next.f ql q1 q2 = some r) : QCon prog := ⟨13, 46, [.known qv qv (R 1 (eI .i64) 0 ql), .sc (.int .i64 q1), .sc (.bool q2)], [], [.known qv qv (R 1 (eI .i64) 0 ql), .sc (.int .i64 r.2.1), .sc (.bool r.2.2)], [.c (.p (iI r.1))], (KeepVs.cons (KeepV.same _ _) (KeepVs.cons (KeepV.sc rfl) (KeepVs.cons (KeepV.sc rfl) KeepVs.nil))), spec_l31Next.ok qv ql q1 q2 r h, spec_l31Next.go⟩
def spec_l01In.f (a0 : Int) (a1 : Int) (a2 : Int) : Option Bool := if a1 ≤ a0 then (some (decide (a0 ≤ a2))) else (some false)
theorem spec_l01In.go : Callable prog 33 := ⟨_, func33, by kernel_rfl, rfl⟩
theorem spec_l01In.ok (a0 : Int) (a1 : Int) (a2 : Int) (r : Bool) (h : spec_l01In.f a0 a1 a2 = some r) : VCalls prog 33 [.c (iI a0), .c (iI a1), .c (iI a2)] [.c (.p (.sc (.bool r)))] := by
 unfold spec_l01In.f at h
 refine VCalls.of (fn := f33) (N := 15) func33 rfl rfl (fun w0 => ?_)
 by_cases c1 : a1 ≤ a0
 ·replace h := ip c1 h
  cases h
  exact rt func33 [.dec 10 true, .fin] (oT c1 on)
 ·replace h := iq c1 h
  cases h
  exact rt func33 [.dec 10 false, .fin] (oF c1 on)
def spec_l31Count.f (ql : List Int) (q1 : Int) (q2 : Bool) (a1 : Int) : Option (Int × Int × Bool) := (spec_l31Next.f ql q1 q2).bind fun t1 => (spec_l01In.f t1.1 0 a1).bind fun t2 => if t2 = true then (some (t1.1, t1.2.1, t1.2.2)) else (some (0, t1.2.1, true))
theorem spec_l31Count.go : Callable prog 12 := ⟨_, func12, by kernel_rfl, rfl⟩
theorem spec_l31Count.ok (qv : Value) (ql : List Int) (q1 : Int) (q2 : Bool) (a1 : Int) (r : Int × Int × Bool) (h : spec_l31Count.f ql q1 q2 a1 = some r) : QOk prog 12 46 [.known qv qv (R 1 (eI .i64) 0 ql), .sc (.int .i64 q1), .sc (.bool q2)] [.c (iI a1)] [.known qv qv (R 1 (eI .i64) 0 ql), .sc (.int .i64 r.2.1), .sc (.bool r.2.2)] [.c (.p (iI r.1))] := by
 unfold spec_l31Count.f at h
 refine QOk.of (fn := f12) (N := 16) func12 rfl rfl (flatRCs_of (o1 rfl on)) (fun w0 qb hB hQ => ?_)
 obtain ⟨t1, g1, h⟩ := bindN h
 let C1 := spec_l31Next.con qv ql q1 q2 t1 g1
 obtain ⟨t2, g2, h⟩ := bindN h
 let C2 := mkCon (spec_l01In.ok t1.1 0 a1 t2 g2) spec_l01In.go
 by_cases c3 : t2 = true
 ·replace h := ip c3 h
  cases h
  exact byRetB MX func12 (T := [(0, .t (.c (.hv 0 (.pointer (some ⟨qb, 0, none⟩)))))]) hQ rfl rfl 1000 [.callQ C1, .call C2, .b false, .fin] (oa (scq_ C1) (oc C2 (o1 (bnf c3) on))) (by kernel_rfl)
 ·replace h := iq c3 h
  cases h
  exact byRetB MX func12 (T := [(0, .t (.c (.hv 0 (.pointer (some ⟨qb, 0, none⟩)))))]) hQ rfl rfl 1000 [.callQ C1, .call C2, .b true, .fin] (oa (scq_ C1) (oc C2 (oN c3 on))) (by kernel_rfl)
def spec_l31Count.con (qv : Value) (ql : List Int) (q1 : Int) (q2 : Bool) (a1 : Int) (r : Int × Int × Bool) (h : spec_l31Count.f ql q1 q2 a1 = some r) : QCon prog := ⟨12, 46, [.known qv qv (R 1 (eI .i64) 0 ql), .sc (.int .i64 q1), .sc (.bool q2)], [.c (iI a1)], [.known qv qv (R 1 (eI .i64) 0 ql), .sc (.int .i64 r.2.1), .sc (.bool r.2.2)], [.c (.p (iI r.1))], (KeepVs.cons (KeepV.same _ _) (KeepVs.cons (KeepV.sc rfl) (KeepVs.cons (KeepV.sc rfl) KeepVs.nil))), spec_l31Count.ok qv ql q1 q2 a1 r h, spec_l31Count.go⟩
def impl_numbers_any.f (ql : List Int) (qj : Nat) (q1 : Bool) : Option (Int × Nat × Bool) := if ((List.drop qj ql).length : Int) = 0 then (some (0, qj, true)) else (if q1 = true then (some (0, qj, q1)) else (if 0 < ((List.drop qj ql).length : Int) then (if 1 ≤ ((List.drop qj ql).length : Int) then (some ((rdD 0 (List.drop qj ql) 0), (qj + 1), q1)) else none) else none))
theorem impl_numbers_any.go : Callable prog 44 := ⟨_, func44, by kernel_rfl, rfl⟩
theorem impl_numbers_any.ok (qv : Value) (ql : List Int) (qj : Nat) (q1 : Bool) (r : Int × Nat × Bool) (h : impl_numbers_any.f ql qj q1 = some r) : QOk prog 44 59 [.known (cutH qv qj) qv (R 1 (eI .i64) 0 ql), .sc (.bool q1)] [] [.known (cutH qv r.2.1) qv (R 1 (eI .i64) 0 ql), .sc (.bool r.2.2)] [.c (.p (iI r.1))] := by
 unfold impl_numbers_any.f at h
 refine QOk.of (fn := f44) (N := 32) func44 rfl rfl (flatRCs_of (o1 rfl on)) (fun w0 qb hB hQ => ?_)
 by_cases c1 : ((List.drop qj ql).length : Int) = 0
 ·replace h := ip c1 h
  cases h
  exact byRetB MX func44 (T := [(0, .t (.c (.hv 0 (.pointer (some ⟨qb, 0, none⟩)))))]) hQ rfl rfl 1000 [.cst 7 (R 1 (eI .i64) 0 (List.drop qj ql)), .b true, .b true, .fin] (o1 (VE.cutk (e := (eI .i64)) (d := 0) qv ql qj) (oT c1 (oR on))) (by kernel_rfl)
 ·replace h := iq c1 h
  by_cases c2 : q1 = true
  ·replace h := ip c2 h
   cases h
   exact byRetB MX func44 (T := [(0, .t (.c (.hv 0 (.pointer (some ⟨qb, 0, none⟩)))))]) hQ rfl rfl 1000 [.cst 7 (R 1 (eI .i64) 0 (List.drop qj ql)), .b false, .b true, .fin] (o1 (VE.cutk (e := (eI .i64)) (d := 0) qv ql qj) (oF c1 (o1 c2 on))) (by kernel_rfl)
  ·replace h := iq c2 h
   obtain ⟨c3, h⟩ := ifN h
   obtain ⟨c4, h⟩ := ifN h
   cases h
   exact byRetB MX func44 (T := [(0, .t (.c (.hv 0 (.pointer (some ⟨qb, 0, none⟩)))))]) hQ rfl rfl 1000 [.cst 7 (R 1 (eI .i64) 0 (List.drop qj ql)), .b false, .b false, .cst 20 (R 1 (eI .i64) 0 (List.drop qj ql)), .fin] (o1 (VE.cutk (e := (eI .i64)) (d := 0) qv ql qj) (oF c1 (o1 (eqf c2) (o1 (VE.cutk (e := (eI .i64)) (d := 0) qv ql qj) (o1 (by decide : (0 : Int) ≤ 0) (o1 c3 (o1 (SliceK.of (e := (eI .i64)) (d := 0) qv ql qj c4) on))))))) (by kernel_rfl)
def impl_numbers_any.con (qv : Value) (ql : List Int) (qj : Nat) (q1 : Bool) (r : Int × Nat × Bool) (h : impl_numbers_any.f ql qj q1 = some r) : QCon prog := ⟨44, 59, [.known (cutH qv qj) qv (R 1 (eI .i64) 0 ql), .sc (.bool q1)], [], [.known (cutH qv r.2.1) qv (R 1 (eI .i64) 0 ql), .sc (.bool r.2.2)], [.c (.p (iI r.1))], (KeepVs.cons (KeepV.cut _ _ _ _) (KeepVs.cons (KeepV.sc rfl) KeepVs.nil)), impl_numbers_any.ok qv ql qj q1 r h, impl_numbers_any.go⟩
def impl_numbers_next.f (ql : List Int) (qj : Nat) (q1 : Bool) (a1 : Int) : Option (Int × Nat × Bool) := (impl_numbers_any.f ql qj q1).bind fun t1 => if t1.1 < 0 then (some (0, t1.2.1, true)) else (if a1 < t1.1 then (some (0, t1.2.1, true)) else (if t1.2.2 = true then (some (0, t1.2.1, t1.2.2)) else (some (t1.1, t1.2.1, t1.2.2))))
theorem impl_numbers_next.go : Callable prog 43 := ⟨_, func43, by kernel_rfl, rfl⟩
theorem impl_numbers_next.ok (qv : Value) (ql : List Int) (qj : Nat) (q1 : Bool) (a1 : Int) (r : Int × Nat × Bool) (h : impl_numbers_next.f ql qj q1 a1 = some r) : QOk prog 43 59 [.known (cutH qv qj) qv (R 1 (eI .i64) 0 ql), .sc (.bool q1)] [.c (iI a1)] [.known (cutH qv r.2.1) qv (R 1 (eI .i64) 0 ql), .sc (.bool r.2.2)] [.c (.p (iI r.1))] := by
 unfold impl_numbers_next.f at h
 refine QOk.of (fn := f43) (N := 23) func43 rfl rfl (flatRCs_of (o1 rfl on)) (fun w0 qb hB hQ => ?_)
 obtain ⟨t1, g1, h⟩ := bindN h
 let C1 := impl_numbers_any.con qv ql qj q1 t1 g1
 by_cases c2 : t1.1 < 0
 ·replace h := ip c2 h
  cases h
  exact byRetB MX func43 (T := [(0, .t (.c (.hv 0 (.pointer (some ⟨qb, 0, none⟩)))))]) hQ rfl rfl 1000 [.callQ C1, .dec 10 true, .b true, .b true, .fin] (oa (scq_ C1) (oT c2 (oR (oR on)))) (by kernel_rfl)
 ·replace h := iq c2 h
  by_cases c3 : a1 < t1.1
  ·replace h := ip c3 h
   cases h
   exact byRetB MX func43 (T := [(0, .t (.c (.hv 0 (.pointer (some ⟨qb, 0, none⟩)))))]) hQ rfl rfl 1000 [.callQ C1, .dec 10 false, .b true, .b true, .fin] (oa (scq_ C1) (oF c2 (oT c3 (oR on)))) (by kernel_rfl)
  ·replace h := iq c3 h
   by_cases c4 : t1.2.2 = true
   ·replace h := ip c4 h
    cases h
    exact byRetB MX func43 (T := [(0, .t (.c (.hv 0 (.pointer (some ⟨qb, 0, none⟩)))))]) hQ rfl rfl 1000 [.callQ C1, .dec 10 false, .b false, .b true, .fin] (oa (scq_ C1) (oF c2 (oF c3 (o1 c4 on)))) (by kernel_rfl)
   ·replace h := iq c4 h
    cases h
    exact byRetB MX func43 (T := [(0, .t (.c (.hv 0 (.pointer (some ⟨qb, 0, none⟩)))))]) hQ rfl rfl 1000 [.callQ C1, .dec 10 false, .b false, .b false, .fin] (oa (scq_ C1) (oF c2 (oF c3 (o1 (eqf c4) on)))) (by kernel_rfl)
def impl_numbers_next.con (qv : Value) (ql : List Int) (qj : Nat) (q1 : Bool) (a1 : Int) (r : Int × Nat × Bool) (h : impl_numbers_next.f ql qj q1 a1 = some r) : QCon prog := ⟨43, 59, [.known (cutH qv qj) qv (R 1 (eI .i64) 0 ql), .sc (.bool q1)], [.c (iI a1)], [.known (cutH qv r.2.1) qv (R 1 (eI .i64) 0 ql), .sc (.bool r.2.2)], [.c (.p (iI r.1))], (KeepVs.cons (KeepV.cut _ _ _ _) (KeepVs.cons (KeepV.sc rfl) KeepVs.nil)), impl_numbers_next.ok qv ql qj q1 a1 r h, impl_numbers_next.go⟩
def impl_numbers_some.h0T (qb : Nat) (v15 : Int) (qv : Value) (v12 : Nat) (ql : List Int) (v13 : Bool) (v14 : List Int) : List (Nat × AV) := [(0, .t (.c (.hv 0 (.pointer (some ⟨qb, 0, none⟩))))), (1, .t (.c (.p false (iI v15)))), (5, .t (.c (.h 320320)))]
def impl_numbers_some.h0H (qb : Nat) (v15 : Int) (qv : Value) (v12 : Nat) (ql : List Int) (v13 : Bool) (v14 : List Int) : List (Nat × Content) := [(0, .box 59 [.p false (.known (cutH qv v12) qv (R 1 (eI .i64) 0 ql)), .p false (.sc (.bool v13))]), (320320, .row 3 1 v14.length (fun j => (eI .i64) (v14.getD j 0)) true)]
def impl_numbers_some.l0 : Nat → List Int → Nat → Bool → List Int → Int → Option ((List Int) × Nat × Bool)
 | 0, _, _, _, _, _ => none
 | kq + 1, ql, v12, v13, v14, v15 => if 0 < v15 then (if v13 = true then (some (v14, v12, v13)) else ((impl_numbers_any.f ql v12 v13).bind fun t16 => if (v14.length + 1) * 8 ≤ 140737488355328 then (impl_numbers_some.l0 kq ql t16.2.1 t16.2.2 (v14 ++ [t16.1]) (w64 (v15 - 1))) else none)) else (some (v14, v12, v13))
def impl_numbers_some.f (k : Nat) (ql : List Int) (qj : Nat) (q1 : Bool) (a1 : Int) : Option ((List Int) × Nat × Bool) := impl_numbers_some.l0 k ql qj q1 ([] : List Int) a1
theorem impl_numbers_some.go : Callable prog 45 := ⟨_, func45, by kernel_rfl, rfl⟩
theorem impl_numbers_some.ok (qv : Value) (k : Nat) (ql : List Int) (qj : Nat) (q1 : Bool) (a1 : Int) (r : (List Int) × Nat × Bool) (h : impl_numbers_some.f k ql qj q1 a1 = some r) : QOk prog 45 59 [.known (cutH qv qj) qv (R 1 (eI .i64) 0 ql), .sc (.bool q1)] [.c (iI a1)] [.known (cutH qv r.2.1) qv (R 1 (eI .i64) 0 ql), .sc (.bool r.2.2)] [.c (.own 3 1 r.1.length (fun j => (eI .i64) (r.1.getD j 0)))] := by
 unfold impl_numbers_some.f at h
 refine QOk.of (fn := f45) (N := 23) func45 rfl rfl (flatRCs_of (o1 ⟨by decide, by decide, SC.of (e := (eI .i64)) (d := 0) r.1 (by intro x; rfl)⟩ on)) (fun w0 qb hB hQ => ?_)
 have H0 : ∀ (kq : Nat) (v12 : Nat) (v13 : Bool) (v14 : List Int) (v15 : Int), impl_numbers_some.l0 kq ql v12 v13 v14 v15 = some r → AG prog 45 23 [.c (.own 3 1 r.1.length (fun j => (eI .i64) (r.1.getD j 0)))] w0 (headStk (codeOf f45) 0) (mkFS (impl_numbers_some.h0T qb v15 qv v12 ql v13 v14) (impl_numbers_some.h0H qb v15 qv v12 ql v13 v14)) := by
  intro kq
  induction kq with
  | zero => intro v12 v13 v14 v15 h; cases h
  | succ kq ih =>
    intro v12 v13 v14 v15 h
    rw [impl_numbers_some.l0] at h
    by_cases c21 : 0 < v15
    ·replace h := ip c21 h
     by_cases c22 : v13 = true
     ·replace h := ip c22 h
      cases h
      exact byRetB MX func45 (T := [(0, .t (.c (.hv 0 (.pointer (some ⟨qb, 0, none⟩)))))]) hQ rfl rfl 1000 [.dec 8 true, .b false, .fin, .fin] (oT c21 (o1 (bnf c22) on)) (by kernel_rfl)
     ·replace h := iq c22 h
      obtain ⟨t16, g23, h⟩ := bindN h
      let C23 := impl_numbers_any.con qv ql v12 v13 t16 g23
      obtain ⟨c24, h⟩ := ifN h
      exact hd func45 [.dec 8 true, .b true, .callQ C23, rowe 20 (eI .i64) 0 ([t16.1]), .aft 21, orow 320320 (eI .i64) 0 (v14 ++ [t16.1]), .fin] (oT c21 (oN c22 (oa (scq_ C23) (o1 (GE.lit 1 (eI .i64) 0 [t16.1] (by intro x; rfl)) (o1 c24 (o1 (GE.app (e := (eI .i64)) (d := 0) v14 ([t16.1]) rfl (fun _ _ => CE.refl _) rfl) on)))))) (ih t16.2.1 t16.2.2 (v14 ++ [t16.1]) (w64 (v15 - 1)) h)
    ·replace h := iq c21 h
     cases h
     exact byRetB MX func45 (T := [(0, .t (.c (.hv 0 (.pointer (some ⟨qb, 0, none⟩)))))]) hQ rfl rfl 1000 [.dec 8 false, .b false, .fin, .fin] (oF c21 (o1 (rfl : false = false) on)) (by kernel_rfl)
 exact hd func45 [.fin, .nil 5 320320 3 1, orow 320320 (eI .i64) 0 ([] : List Int)] (o1 (GE.nil (eI .i64) 0) on) (H0 k qj q1 ([] : List Int) a1 h)
def impl_numbers_some.con (qv : Value) (k : Nat) (ql : List Int) (qj : Nat) (q1 : Bool) (a1 : Int) (r : (List Int) × Nat × Bool) (h : impl_numbers_some.f k ql qj q1 a1 = some r) : QCon prog := ⟨45, 59, [.known (cutH qv qj) qv (R 1 (eI .i64) 0 ql), .sc (.bool q1)], [.c (iI a1)], [.known (cutH qv r.2.1) qv (R 1 (eI .i64) 0 ql), .sc (.bool r.2.2)], [.c (.own 3 1 r.1.length (fun j => (eI .i64) (r.1.getD j 0)))], (KeepVs.cons (KeepV.cut _ _ _ _) (KeepVs.cons (KeepV.sc rfl) KeepVs.nil)), impl_numbers_some.ok qv k ql qj q1 a1 r h, impl_numbers_some.go⟩
def impl_numbers_yardIn.h0T (qb : Nat) (v32 : Int) (qv : Value) (v29 : Nat) (ql : List Int) (v30 : Bool) (t1 : Int × Nat × Bool) (t2 : Int × Nat × Bool) (v31 : List Int) : List (Nat × AV) := [(0, .t (.c (.hv 0 (.pointer (some ⟨qb, 0, none⟩))))), (2, .ptr 128 0), (3, .ptr 192 0), (4, .ptr 192 0), (5, .t (.c (.h 320320))), (6, .t (.c (.p true (iI v32))))]
def impl_numbers_yardIn.h0H (qb : Nat) (v32 : Int) (qv : Value) (v29 : Nat) (ql : List Int) (v30 : Bool) (t1 : Int × Nat × Bool) (t2 : Int × Nat × Bool) (v31 : List Int) : List (Nat × Content) := [(0, .box 59 [.p false (.known (cutH qv v29) qv (R 1 (eI .i64) 0 ql)), .p true (.sc (.bool v30))]), (128, .box 35 [.p true (iI 0), .p true (iI 0), .p true (.sc (.string (⟨#[]⟩ : ByteArray))), .p true (iI 0), .p true (iI 0), .p true (iI 0), .p true (iI 0), .p true (.sc (.slice none 0 0)), .p true (iI 0), .p true (iI 0), .p true (.sc (.slice none 0 0)), .p true (iI 0), .p true (.sc (.bool false)), .p true (iI 0), .p true (iI 0), .p true (.sc (.slice none 0 0)), .p true (.sc (.slice none 0 0)), .p true (.sc (.slice none 0 0))]), (192, .box 35 [.p true (iI t1.1), .p true (iI t2.1), .p true (.sc (.string (⟨#[]⟩ : ByteArray))), .p true (iI 0), .p true (iI 0), .p true (iI 0), .p true (iI 0), .p true (.sc (.slice none 0 0)), .p true (iI 0), .p true (iI 0), .p true (.sc (.slice none 0 0)), .p true (iI 0), .p true (.sc (.bool false)), .p true (iI 0), .p true (iI 0), .p true (.sc (.slice none 0 0)), .p true (.sc (.slice none 0 0)), .p true (.sc (.slice none 0 0))]), (320320, .row 5 1 v31.length (fun j => (eI .u8) (v31.getD j 0)) true)]
def impl_numbers_yardIn.x0T (qb : Nat) (qv : Value) (y34 : Nat × Bool × (List Int)) (ql : List Int) (t1 : Int × Nat × Bool) (t2 : Int × Nat × Bool) : List (Nat × AV) := [(0, .t (.c (.hv 0 (.pointer (some ⟨qb, 0, none⟩))))), (2, .ptr 128 0), (3, .ptr 192 0), (4, .ptr 192 0), (5, .t (.c (.h 320320)))]
def impl_numbers_yardIn.x0H (qb : Nat) (qv : Value) (y34 : Nat × Bool × (List Int)) (ql : List Int) (t1 : Int × Nat × Bool) (t2 : Int × Nat × Bool) : List (Nat × Content) := [(0, .box 59 [.p false (.known (cutH qv y34.1) qv (R 1 (eI .i64) 0 ql)), .p true (.sc (.bool y34.2.1))]), (128, .box 35 [.p true (iI 0), .p true (iI 0), .p true (.sc (.string (⟨#[]⟩ : ByteArray))), .p true (iI 0), .p true (iI 0), .p true (iI 0), .p true (iI 0), .p true (.sc (.slice none 0 0)), .p true (iI 0), .p true (iI 0), .p true (.sc (.slice none 0 0)), .p true (iI 0), .p true (.sc (.bool false)), .p true (iI 0), .p true (iI 0), .p true (.sc (.slice none 0 0)), .p true (.sc (.slice none 0 0)), .p true (.sc (.slice none 0 0))]), (192, .box 35 [.p true (iI t1.1), .p true (iI t2.1), .p true (.sc (.string (⟨#[]⟩ : ByteArray))), .p true (iI 0), .p true (iI 0), .p true (iI 0), .p true (iI 0), .p true (.sc (.slice none 0 0)), .p true (iI 0), .p true (iI 0), .p true (.sc (.slice none 0 0)), .p true (iI 0), .p true (.sc (.bool false)), .p true (iI 0), .p true (iI 0), .p true (.sc (.slice none 0 0)), .p true (.sc (.slice none 0 0)), .p true (.sc (.slice none 0 0))]), (320320, .row 5 1 y34.2.2.length (fun j => (eI .u8) (y34.2.2.getD j 0)) true)]
def impl_numbers_yardIn.l0 : Nat → (Int × Nat × Bool) → (Int × Nat × Bool) → List Int → Nat → Bool → List Int → Int → Option (Nat × Bool × (List Int))
 | 0, _, _, _, _, _, _, _ => none
 | kq + 1, t1, t2, ql, v29, v30, v31, v32 => if v32 < (w64 (t1.1 * t2.1)) then ((impl_numbers_next.f ql v29 v30 255).bind fun t33 => if (v31.length + 1) * 1 ≤ 140737488355328 then (impl_numbers_yardIn.l0 kq t1 t2 ql t33.2.1 t33.2.2 (v31 ++ [(IntKind.u8.wrap t33.1)]) (w64 (v32 + 1))) else none) else (some (v29, v30, v31))
def impl_numbers_yardIn.h1T (qb : Nat) (v93 : Int) (qv : Value) (v90 : Nat) (ql : List Int) (v91 : Bool) (t1 : Int × Nat × Bool) (t2 : Int × Nat × Bool) (y34 : Nat × Bool × (List Int)) (t35 : Int × Nat × Bool) (t36 : Int × Nat × Bool) (t37 : Int × Nat × Bool) (t38 : Int × Nat × Bool) (v92 : List S51) : List (Nat × AV) := [(0, .t (.c (.hv 0 (.pointer (some ⟨qb, 0, none⟩))))), (2, .ptr 128 0), (3, .ptr 192 0), (7, .t (.c (.p true (iI v93))))]
def impl_numbers_yardIn.h1H (qb : Nat) (v93 : Int) (qv : Value) (v90 : Nat) (ql : List Int) (v91 : Bool) (t1 : Int × Nat × Bool) (t2 : Int × Nat × Bool) (y34 : Nat × Bool × (List Int)) (t35 : Int × Nat × Bool) (t36 : Int × Nat × Bool) (t37 : Int × Nat × Bool) (t38 : Int × Nat × Bool) (v92 : List S51) : List (Nat × Content) := [(0, .box 59 [.p false (.known (cutH qv v90) qv (R 1 (eI .i64) 0 ql)), .p true (.sc (.bool v91))]), (128, .box 35 [.p true (iI 0), .p true (iI 0), .p true (.sc (.string (⟨#[]⟩ : ByteArray))), .p true (iI 0), .p true (iI 0), .p true (iI 0), .p true (iI 0), .p true (.sc (.slice none 0 0)), .p true (iI 0), .p true (iI 0), .p true (.sc (.slice none 0 0)), .p true (iI 0), .p true (.sc (.bool false)), .p true (iI 0), .p true (iI 0), .p true (.sc (.slice none 0 0)), .p true (.sc (.slice none 0 0)), .p true (.sc (.slice none 0 0))]), (192, .box 35 [.p true (iI t1.1), .p true (iI t2.1), .p true (.sc (.string (strOf y34.2.2))), .p true (iI t35.1), .p true (iI t36.1), .p true (iI t37.1), .p true (iI t38.1), .h 512199, .p true (iI 0), .p true (iI 0), .p true (.sc (.slice none 0 0)), .p true (iI 0), .p true (.sc (.bool false)), .p true (iI 0), .p true (iI 0), .p true (.sc (.slice none 0 0)), .p true (.sc (.slice none 0 0)), .p true (.sc (.slice none 0 0))]), (512199, .row 51 4 v92.length (fun j => e51 (v92.getD j z51)) true)]
def impl_numbers_yardIn.x1T (qb : Nat) (qv : Value) (y98 : Nat × Bool × (List S51)) (ql : List Int) (t1 : Int × Nat × Bool) (t2 : Int × Nat × Bool) (y34 : Nat × Bool × (List Int)) (t35 : Int × Nat × Bool) (t36 : Int × Nat × Bool) (t37 : Int × Nat × Bool) (t38 : Int × Nat × Bool) : List (Nat × AV) := [(0, .t (.c (.hv 0 (.pointer (some ⟨qb, 0, none⟩))))), (2, .ptr 128 0), (3, .ptr 192 0)]
def impl_numbers_yardIn.x1H (qb : Nat) (qv : Value) (y98 : Nat × Bool × (List S51)) (ql : List Int) (t1 : Int × Nat × Bool) (t2 : Int × Nat × Bool) (y34 : Nat × Bool × (List Int)) (t35 : Int × Nat × Bool) (t36 : Int × Nat × Bool) (t37 : Int × Nat × Bool) (t38 : Int × Nat × Bool) : List (Nat × Content) := [(0, .box 59 [.p false (.known (cutH qv y98.1) qv (R 1 (eI .i64) 0 ql)), .p true (.sc (.bool y98.2.1))]), (128, .box 35 [.p true (iI 0), .p true (iI 0), .p true (.sc (.string (⟨#[]⟩ : ByteArray))), .p true (iI 0), .p true (iI 0), .p true (iI 0), .p true (iI 0), .p true (.sc (.slice none 0 0)), .p true (iI 0), .p true (iI 0), .p true (.sc (.slice none 0 0)), .p true (iI 0), .p true (.sc (.bool false)), .p true (iI 0), .p true (iI 0), .p true (.sc (.slice none 0 0)), .p true (.sc (.slice none 0 0)), .p true (.sc (.slice none 0 0))]), (192, .box 35 [.p true (iI t1.1), .p true (iI t2.1), .p true (.sc (.string (strOf y34.2.2))), .p true (iI t35.1), .p true (iI t36.1), .p true (iI t37.1), .p true (iI t38.1), .h 512199, .p true (iI 0), .p true (iI 0), .p true (.sc (.slice none 0 0)), .p true (iI 0), .p true (.sc (.bool false)), .p true (iI 0), .p true (iI 0), .p true (.sc (.slice none 0 0)), .p true (.sc (.slice none 0 0)), .p true (.sc (.slice none 0 0))]), (512199, .row 51 4 y98.2.2.length (fun j => e51 (y98.2.2.getD j z51)) true)]
def impl_numbers_yardIn.l1 : Nat → List Int → Nat → Bool → List S51 → Int → Option (Nat × Bool × (List S51))
 | 0, _, _, _, _, _ => none
 | kq + 1, ql, v90, v91, v92, v93 => if 0 < v93 then ((impl_numbers_any.f ql v90 v91).bind fun t94 => (impl_numbers_any.f ql t94.2.1 t94.2.2).bind fun t95 => (impl_numbers_any.f ql t95.2.1 t95.2.2).bind fun t96 => (impl_numbers_any.f ql t96.2.1 t96.2.2).bind fun t97 => if (v92.length + 1) * 32 ≤ 140737488355328 then (impl_numbers_yardIn.l1 kq ql t97.2.1 t97.2.2 (v92 ++ [(⟨t94.1, t95.1, t96.1, (decide (t97.1 = 1))⟩ : S51)]) (w64 (v93 - 1))) else none) else (some (v90, v91, v92))
def impl_numbers_yardIn.h2T (qb : Nat) (v134 : Int) (qv : Value) (v131 : Nat) (ql : List Int) (v132 : Bool) (t1 : Int × Nat × Bool) (t2 : Int × Nat × Bool) (y34 : Nat × Bool × (List Int)) (t35 : Int × Nat × Bool) (t36 : Int × Nat × Bool) (t37 : Int × Nat × Bool) (t38 : Int × Nat × Bool) (t100 : Int × Nat × Bool) (t101 : Int × Nat × Bool) (t102 : Int × Nat × Bool) (t103 : Int × Nat × Bool) (t99 : (List Int) × Nat × Bool) (y98 : Nat × Bool × (List S51)) (v133 : List S53) : List (Nat × AV) := [(0, .t (.c (.hv 0 (.pointer (some ⟨qb, 0, none⟩))))), (2, .ptr 128 0), (3, .ptr 192 0), (8, .t (.c (.p true (iI v134))))]
def impl_numbers_yardIn.h2H (qb : Nat) (v134 : Int) (qv : Value) (v131 : Nat) (ql : List Int) (v132 : Bool) (t1 : Int × Nat × Bool) (t2 : Int × Nat × Bool) (y34 : Nat × Bool × (List Int)) (t35 : Int × Nat × Bool) (t36 : Int × Nat × Bool) (t37 : Int × Nat × Bool) (t38 : Int × Nat × Bool) (t100 : Int × Nat × Bool) (t101 : Int × Nat × Bool) (t102 : Int × Nat × Bool) (t103 : Int × Nat × Bool) (t99 : (List Int) × Nat × Bool) (y98 : Nat × Bool × (List S51)) (v133 : List S53) : List (Nat × Content) := [(0, .box 59 [.p false (.known (cutH qv v131) qv (R 1 (eI .i64) 0 ql)), .p true (.sc (.bool v132))]), (128, .box 35 [.p true (iI 0), .p true (iI 0), .p true (.sc (.string (⟨#[]⟩ : ByteArray))), .p true (iI 0), .p true (iI 0), .p true (iI 0), .p true (iI 0), .p true (.sc (.slice none 0 0)), .p true (iI 0), .p true (iI 0), .p true (.sc (.slice none 0 0)), .p true (iI 0), .p true (.sc (.bool false)), .p true (iI 0), .p true (iI 0), .p true (.sc (.slice none 0 0)), .p true (.sc (.slice none 0 0)), .p true (.sc (.slice none 0 0))]), (192, .box 35 [.p true (iI t1.1), .p true (iI t2.1), .p true (.sc (.string (strOf y34.2.2))), .p true (iI t35.1), .p true (iI t36.1), .p true (iI t37.1), .p true (iI t38.1), .h 512199, .p true (iI t36.1), .p true (iI t37.1), .h 5952, .p true (iI t100.1), .p true (.sc (.bool (decide (t101.1 = 1)))), .p true (iI t102.1), .p true (iI t103.1), .hn 512207, .p true (.sc (.slice none 0 0)), .p true (.sc (.slice none 0 0))]), (5952, .row 3 1 t99.1.length (fun j => (eI .i64) (t99.1.getD j 0)) true), (512199, .row 51 4 y98.2.2.length (fun j => e51 (y98.2.2.getD j z51)) true), (512207, NC 53 3 S53.f0 (Value.int .i64) z53 0 v133)]
def impl_numbers_yardIn.x2T (qb : Nat) (qv : Value) (y136 : Nat × Bool × (List S53)) (ql : List Int) (t1 : Int × Nat × Bool) (t2 : Int × Nat × Bool) (y34 : Nat × Bool × (List Int)) (t35 : Int × Nat × Bool) (t36 : Int × Nat × Bool) (t37 : Int × Nat × Bool) (t38 : Int × Nat × Bool) (t100 : Int × Nat × Bool) (t101 : Int × Nat × Bool) (t102 : Int × Nat × Bool) (t103 : Int × Nat × Bool) (t99 : (List Int) × Nat × Bool) (y98 : Nat × Bool × (List S51)) : List (Nat × AV) := [(0, .t (.c (.hv 0 (.pointer (some ⟨qb, 0, none⟩))))), (2, .ptr 128 0), (3, .ptr 192 0)]
def impl_numbers_yardIn.x2H (qb : Nat) (qv : Value) (y136 : Nat × Bool × (List S53)) (ql : List Int) (t1 : Int × Nat × Bool) (t2 : Int × Nat × Bool) (y34 : Nat × Bool × (List Int)) (t35 : Int × Nat × Bool) (t36 : Int × Nat × Bool) (t37 : Int × Nat × Bool) (t38 : Int × Nat × Bool) (t100 : Int × Nat × Bool) (t101 : Int × Nat × Bool) (t102 : Int × Nat × Bool) (t103 : Int × Nat × Bool) (t99 : (List Int) × Nat × Bool) (y98 : Nat × Bool × (List S51)) : List (Nat × Content) := [(0, .box 59 [.p false (.known (cutH qv y136.1) qv (R 1 (eI .i64) 0 ql)), .p true (.sc (.bool y136.2.1))]), (128, .box 35 [.p true (iI 0), .p true (iI 0), .p true (.sc (.string (⟨#[]⟩ : ByteArray))), .p true (iI 0), .p true (iI 0), .p true (iI 0), .p true (iI 0), .p true (.sc (.slice none 0 0)), .p true (iI 0), .p true (iI 0), .p true (.sc (.slice none 0 0)), .p true (iI 0), .p true (.sc (.bool false)), .p true (iI 0), .p true (iI 0), .p true (.sc (.slice none 0 0)), .p true (.sc (.slice none 0 0)), .p true (.sc (.slice none 0 0))]), (192, .box 35 [.p true (iI t1.1), .p true (iI t2.1), .p true (.sc (.string (strOf y34.2.2))), .p true (iI t35.1), .p true (iI t36.1), .p true (iI t37.1), .p true (iI t38.1), .h 512199, .p true (iI t36.1), .p true (iI t37.1), .h 5952, .p true (iI t100.1), .p true (.sc (.bool (decide (t101.1 = 1)))), .p true (iI t102.1), .p true (iI t103.1), .hn 512207, .p true (.sc (.slice none 0 0)), .p true (.sc (.slice none 0 0))]), (5952, .row 3 1 t99.1.length (fun j => (eI .i64) (t99.1.getD j 0)) true), (512199, .row 51 4 y98.2.2.length (fun j => e51 (y98.2.2.getD j z51)) true), (512207, NC 53 3 S53.f0 (Value.int .i64) z53 0 y136.2.2)]
def impl_numbers_yardIn.l2 : Nat → List Int → (Int × Nat × Bool) → Nat → Bool → List S53 → Int → Option (Nat × Bool × (List S53))
 | 0, _, _, _, _, _, _ => none
 | kq + 1, ql, t102, v131, v132, v133, v134 => if 0 < v134 then ((impl_numbers_some.f kq ql v131 v132 (w64 (t102.1 + 1))).bind fun t135 => if (v133.length + 1) * 24 ≤ 140737488355328 then (impl_numbers_yardIn.l2 kq ql t102 t135.2.1 t135.2.2 (v133 ++ [(⟨t135.1⟩ : S53)]) (w64 (v134 - 1))) else none) else (some (v131, v132, v133))
def impl_numbers_yardIn.h3T (qb : Nat) (y136 : Nat × Bool × (List S53)) (v161 : Int) (qv : Value) (v158 : Nat) (ql : List Int) (v159 : Bool) (t1 : Int × Nat × Bool) (t2 : Int × Nat × Bool) (y34 : Nat × Bool × (List Int)) (t35 : Int × Nat × Bool) (t36 : Int × Nat × Bool) (t37 : Int × Nat × Bool) (t38 : Int × Nat × Bool) (t100 : Int × Nat × Bool) (t101 : Int × Nat × Bool) (t102 : Int × Nat × Bool) (t103 : Int × Nat × Bool) (t99 : (List Int) × Nat × Bool) (y98 : Nat × Bool × (List S51)) (v160 : List S55) : List (Nat × AV) := [(0, .t (.c (.hv 0 (.pointer (some ⟨qb, 0, none⟩))))), (2, .ptr 128 0), (3, .ptr 192 0), (134, .t (.c (.p true (.sc (.int .i64 (y136.2.2.length : Int)))))), (135, .t (.c (.p true (iI v161))))]
def impl_numbers_yardIn.h3H (qb : Nat) (y136 : Nat × Bool × (List S53)) (v161 : Int) (qv : Value) (v158 : Nat) (ql : List Int) (v159 : Bool) (t1 : Int × Nat × Bool) (t2 : Int × Nat × Bool) (y34 : Nat × Bool × (List Int)) (t35 : Int × Nat × Bool) (t36 : Int × Nat × Bool) (t37 : Int × Nat × Bool) (t38 : Int × Nat × Bool) (t100 : Int × Nat × Bool) (t101 : Int × Nat × Bool) (t102 : Int × Nat × Bool) (t103 : Int × Nat × Bool) (t99 : (List Int) × Nat × Bool) (y98 : Nat × Bool × (List S51)) (v160 : List S55) : List (Nat × Content) := [(0, .box 59 [.p false (.known (cutH qv v158) qv (R 1 (eI .i64) 0 ql)), .p true (.sc (.bool v159))]), (128, .box 35 [.p true (iI 0), .p true (iI 0), .p true (.sc (.string (⟨#[]⟩ : ByteArray))), .p true (iI 0), .p true (iI 0), .p true (iI 0), .p true (iI 0), .p true (.sc (.slice none 0 0)), .p true (iI 0), .p true (iI 0), .p true (.sc (.slice none 0 0)), .p true (iI 0), .p true (.sc (.bool false)), .p true (iI 0), .p true (iI 0), .p true (.sc (.slice none 0 0)), .p true (.sc (.slice none 0 0)), .p true (.sc (.slice none 0 0))]), (192, .box 35 [.p true (iI t1.1), .p true (iI t2.1), .p true (.sc (.string (strOf y34.2.2))), .p true (iI t35.1), .p true (iI t36.1), .p true (iI t37.1), .p true (iI t38.1), .h 512199, .p true (iI t36.1), .p true (iI t37.1), .h 5952, .p true (iI t100.1), .p true (.sc (.bool (decide (t101.1 = 1)))), .p true (iI t102.1), .p true (iI t103.1), .hn 512207, .h 512208, .p true (.sc (.slice none 0 0))]), (5952, .row 3 1 t99.1.length (fun j => (eI .i64) (t99.1.getD j 0)) true), (512199, .row 51 4 y98.2.2.length (fun j => e51 (y98.2.2.getD j z51)) true), (512207, NC 53 3 S53.f0 (Value.int .i64) z53 0 y136.2.2), (512208, .row 55 3 v160.length (fun j => e55 (v160.getD j z55)) true)]
def impl_numbers_yardIn.l3 : Nat → (Nat × Bool × (List S53)) → List Int → (Int × Nat × Bool) → (Int × Nat × Bool) → (Nat × Bool × (List Int)) → (Int × Nat × Bool) → (Int × Nat × Bool) → (Int × Nat × Bool) → (Int × Nat × Bool) → (Nat × Bool × (List S51)) → ((List Int) × Nat × Bool) → (Int × Nat × Bool) → (Int × Nat × Bool) → (Int × Nat × Bool) → (Int × Nat × Bool) → Nat → Bool → List S55 → Int → Option (S35 × Nat × Bool)
 | 0, _, _, _, _, _, _, _, _, _, _, _, _, _, _, _, _, _, _, _ => none
 | kq + 1, y136, ql, t1, t2, y34, t35, t36, t37, t38, y98, t99, t100, t101, t102, t103, v158, v159, v160, v161 => if v161 < (y136.2.2.length : Int) then ((impl_numbers_any.f ql v158 v159).bind fun t162 => (impl_numbers_any.f ql t162.2.1 t162.2.2).bind fun t163 => (impl_numbers_any.f ql t163.2.1 t163.2.2).bind fun t164 => if (v160.length + 1) * 24 ≤ 140737488355328 then (impl_numbers_yardIn.l3 kq y136 ql t1 t2 y34 t35 t36 t37 t38 y98 t99 t100 t101 t102 t103 t164.2.1 t164.2.2 (v160 ++ [(⟨t162.1, t163.1, (decide (t164.1 = 1))⟩ : S55)]) (w64 (v161 + 1))) else none) else ((impl_numbers_next.f ql v158 v159 64).bind fun t165 => (impl_numbers_some.f kq ql t165.2.1 t165.2.2 t165.1).bind fun t166 => some ((⟨(⟨(⟨t1.1, t2.1, (strOf y34.2.2)⟩ : S24), t35.1, t36.1, t37.1, t38.1⟩ : S26), y98.2.2, (⟨t36.1, t37.1, t99.1⟩ : S29), t100.1, (decide (t101.1 = 1)), (⟨t102.1, t103.1, y136.2.2⟩ : S32), v160, t166.1⟩ : S35), t166.2.1, t166.2.2))
def impl_numbers_yardIn.f (k : Nat) (ql : List Int) (qj : Nat) (q1 : Bool) : Option (S35 × Nat × Bool) := (impl_numbers_next.f ql qj q1 8).bind fun t1 => (impl_numbers_next.f ql t1.2.1 t1.2.2 8).bind fun t2 => (impl_numbers_yardIn.l0 k t1 t2 ql t2.2.1 t2.2.2 ([] : List Int) 0).bind fun y34 => (if isBytes y34.2.2 = true then ((impl_numbers_any.f ql y34.1 y34.2.1).bind fun t35 => (impl_numbers_next.f ql t35.2.1 t35.2.2 8).bind fun t36 => (impl_numbers_any.f ql t36.2.1 t36.2.2).bind fun t37 => (impl_numbers_any.f ql t37.2.1 t37.2.2).bind fun t38 => (impl_numbers_next.f ql t38.2.1 t38.2.2 10).bind fun t39 => (impl_numbers_yardIn.l1 k ql t39.2.1 t39.2.2 ([] : List S51) t39.1).bind fun y98 => ((impl_numbers_some.f k ql y98.1 y98.2.1 (w64 (t36.1 * 6))).bind fun t99 => (impl_numbers_any.f ql t99.2.1 t99.2.2).bind fun t100 => (impl_numbers_any.f ql t100.2.1 t100.2.2).bind fun t101 => (impl_numbers_next.f ql t101.2.1 t101.2.2 20).bind fun t102 => (impl_numbers_any.f ql t102.2.1 t102.2.2).bind fun t103 => (impl_numbers_next.f ql t103.2.1 t103.2.2 10).bind fun t104 => (impl_numbers_yardIn.l2 k ql t102 t104.2.1 t104.2.2 ([] : List S53) t104.1).bind fun y136 => (impl_numbers_yardIn.l3 k y136 ql t1 t2 y34 t35 t36 t37 t38 y98 t99 t100 t101 t102 t103 y136.1 y136.2.1 ([] : List S55) 0))) else none)
theorem impl_numbers_yardIn.go : Callable prog 15 := ⟨_, func15, by kernel_rfl, rfl⟩
theorem impl_numbers_yardIn.ok (qv : Value) (k : Nat) (ql : List Int) (qj : Nat) (q1 : Bool) (r : S35 × Nat × Bool) (h : impl_numbers_yardIn.f k ql qj q1 = some r) : QOk prog 15 59 [.known (cutH qv qj) qv (R 1 (eI .i64) 0 ql), .sc (.bool q1)] [] [.known (cutH qv r.2.1) qv (R 1 (eI .i64) 0 ql), .sc (.bool r.2.2)] [.agg (rn35 r.1)] := by
 unfold impl_numbers_yardIn.f at h
 refine QOk.of (fn := f15) (N := 157) func15 rfl rfl (flatRCs_of (o1 rfl (o1 rfl (o1 rfl (o1 rfl (o1 rfl (o1 rfl (o1 rfl (o1 ⟨by decide, by decide, SC.of (e := e51) (d := z51) r.1.f1 (by intro x; rfl)⟩ (o1 rfl (o1 rfl (o1 ⟨by decide, by decide, SC.of (e := (eI .i64)) (d := 0) r.1.f2.f2 (by intro x; rfl)⟩ (o1 rfl (o1 rfl (o1 rfl (o1 rfl (o1 ⟨by decide, by decide, by decide, by decide⟩ (o1 ⟨by decide, by decide, SC.of (e := e55) (d := z55) r.1.f6 (by intro x; rfl)⟩ (o1 ⟨by decide, by decide, SC.of (e := (eI .i64)) (d := 0) r.1.f7 (by intro x; rfl)⟩ on))))))))))))))))))) (fun w0 qb hB hQ => ?_)
 obtain ⟨t1, g1, h⟩ := bindN h
 let C1 := impl_numbers_next.con qv ql qj q1 8 t1 g1
 obtain ⟨t2, g2, h⟩ := bindN h
 let C2 := impl_numbers_next.con qv ql t1.2.1 t1.2.2 8 t2 g2
 have H0 : ∀ (kq : Nat) (v29 : Nat) (v30 : Bool) (v31 : List Int) (v32 : Int) (x : (Nat × Bool × (List Int))), impl_numbers_yardIn.l0 kq t1 t2 ql v29 v30 v31 v32 = some x → AG prog 15 157 [.agg (rn35 r.1)] w0 (exitStk (codeOf f15) 0) (mkFS (impl_numbers_yardIn.x0T qb qv x ql t1 t2) (impl_numbers_yardIn.x0H qb qv x ql t1 t2)) → AG prog 15 157 [.agg (rn35 r.1)] w0 (headStk (codeOf f15) 0) (mkFS (impl_numbers_yardIn.h0T qb v32 qv v29 ql v30 t1 t2 v31) (impl_numbers_yardIn.h0H qb v32 qv v29 ql v30 t1 t2 v31)) := by
  intro kq
  induction kq with
  | zero => intro v29 v30 v31 v32 x h hx; cases h
  | succ kq ih =>
    intro v29 v30 v31 v32 x h hx
    rw [impl_numbers_yardIn.l0] at h
    by_cases c27 : v32 < (w64 (t1.1 * t2.1))
    ·replace h := ip c27 h
     obtain ⟨t33, g28, h⟩ := bindN h
     let C28 := impl_numbers_next.con qv ql v29 v30 255 t33 g28
     obtain ⟨c29, h⟩ := ifN h
     exact hd func15 [.b true, .callQ C28, rowe 38 (eI .u8) 0 ([(IntKind.u8.wrap t33.1)]), .aft 39, orow 320320 (eI .u8) 0 (v31 ++ [(IntKind.u8.wrap t33.1)]), .fin] (oT c27 (oa (scq_ C28) (o1 (GE.lit 1 (eI .u8) 0 [(IntKind.u8.wrap t33.1)] (by intro x; rfl)) (o1 c29 (o1 (GE.app (e := (eI .u8)) (d := 0) v31 ([(IntKind.u8.wrap t33.1)]) rfl (fun _ _ => CE.refl _) rfl) on))))) (ih t33.2.1 t33.2.2 (v31 ++ [(IntKind.u8.wrap t33.1)]) (w64 (v32 + 1)) _ h hx)
    ·replace h := iq c27 h
     cases h
     exact st func15 [.b false, .fin] (oF c27 on) hx
 obtain ⟨y34, g157, h⟩ := bindN h
 refine hd func15 [.callQ C1, .callQ C2, .fin, .nil 5 320320 5 1, orow 320320 (eI .u8) 0 ([] : List Int)] (oa (scq_ C1) (oa (scq_ C2) (o1 (GE.nil (eI .u8) 0) on))) (H0 k t2.2.1 t2.2.2 ([] : List Int) 0 _ g157 ?_)
 obtain ⟨c30, h⟩ := ifN h
 obtain ⟨t35, g31, h⟩ := bindN h
 let C31 := impl_numbers_any.con qv ql y34.1 y34.2.1 t35 g31
 obtain ⟨t36, g32, h⟩ := bindN h
 let C32 := impl_numbers_next.con qv ql t35.2.1 t35.2.2 8 t36 g32
 obtain ⟨t37, g33, h⟩ := bindN h
 let C33 := impl_numbers_any.con qv ql t36.2.1 t36.2.2 t37 g33
 obtain ⟨t38, g34, h⟩ := bindN h
 let C34 := impl_numbers_any.con qv ql t37.2.1 t37.2.2 t38 g34
 obtain ⟨t39, g35, h⟩ := bindN h
 let C35 := impl_numbers_next.con qv ql t38.2.1 t38.2.2 10 t39 g35
 have H1 : ∀ (kq : Nat) (v90 : Nat) (v91 : Bool) (v92 : List S51) (v93 : Int) (x : (Nat × Bool × (List S51))), impl_numbers_yardIn.l1 kq ql v90 v91 v92 v93 = some x → AG prog 15 157 [.agg (rn35 r.1)] w0 (exitStk (codeOf f15) 1) (mkFS (impl_numbers_yardIn.x1T qb qv x ql t1 t2 y34 t35 t36 t37 t38) (impl_numbers_yardIn.x1H qb qv x ql t1 t2 y34 t35 t36 t37 t38)) → AG prog 15 157 [.agg (rn35 r.1)] w0 (headStk (codeOf f15) 1) (mkFS (impl_numbers_yardIn.h1T qb v93 qv v90 ql v91 t1 t2 y34 t35 t36 t37 t38 v92) (impl_numbers_yardIn.h1H qb v93 qv v90 ql v91 t1 t2 y34 t35 t36 t37 t38 v92)) := by
  intro kq
  induction kq with
  | zero => intro v90 v91 v92 v93 x h hx; cases h
  | succ kq ih =>
    intro v90 v91 v92 v93 x h hx
    rw [impl_numbers_yardIn.l1] at h
    by_cases c84 : 0 < v93
    ·replace h := ip c84 h
     obtain ⟨t94, g85, h⟩ := bindN h
     let C85 := impl_numbers_any.con qv ql v90 v91 t94 g85
     obtain ⟨t95, g86, h⟩ := bindN h
     let C86 := impl_numbers_any.con qv ql t94.2.1 t94.2.2 t95 g86
     obtain ⟨t96, g87, h⟩ := bindN h
     let C87 := impl_numbers_any.con qv ql t95.2.1 t95.2.2 t96 g87
     obtain ⟨t97, g88, h⟩ := bindN h
     let C88 := impl_numbers_any.con qv ql t96.2.1 t96.2.2 t97 g88
     obtain ⟨c89, h⟩ := ifN h
     exact hd func15 [.b true, .callQ C85, .callQ C86, .callQ C87, .callQ C88, rowe 79 e51 z51 ([(⟨t94.1, t95.1, t96.1, (decide (t97.1 = 1))⟩ : S51)]), .aft 80, orow 512199 e51 z51 (v92 ++ [(⟨t94.1, t95.1, t96.1, (decide (t97.1 = 1))⟩ : S51)]), .fin] (oT c84 (oa (scq_ C85) (oa (scq_ C86) (oa (scq_ C87) (oa (scq_ C88) (o1 (GE.lit 4 e51 z51 [(⟨t94.1, t95.1, t96.1, (decide (t97.1 = 1))⟩ : S51)] (by intro x; rfl)) (o1 c89 (o1 (GE.app (e := e51) (d := z51) v92 ([(⟨t94.1, t95.1, t96.1, (decide (t97.1 = 1))⟩ : S51)]) rfl (fun _ _ => CE.refl _) rfl) on)))))))) (ih t97.2.1 t97.2.2 (v92 ++ [(⟨t94.1, t95.1, t96.1, (decide (t97.1 = 1))⟩ : S51)]) (w64 (v93 - 1)) _ h hx)
    ·replace h := iq c84 h
     cases h
     exact st func15 [.b false, .fin] (oF c84 on) hx
 obtain ⟨y98, g156, h⟩ := bindN h
 refine hd func15 [.cst 42 (.sc (.string (strOf y34.2.2))), .callQ C31, .callQ C32, .callQ C33, .callQ C34, .callQ C35, .fin, .nilB 192 7 512199 51 4, orow 512199 e51 z51 ([] : List S51)] (o1 (ByOk.of c30) (o1 (VE.str y34.2.2) (oa (scq_ C31) (oa (scq_ C32) (oa (scq_ C33) (oa (scq_ C34) (oa (scq_ C35) (o1 (GE.nil e51 z51) on)))))))) (H1 k t39.2.1 t39.2.2 ([] : List S51) t39.1 _ g156 ?_)
 obtain ⟨t99, g90, h⟩ := bindN h
 let C90 := impl_numbers_some.con qv k ql y98.1 y98.2.1 (w64 (t36.1 * 6)) t99 g90
 obtain ⟨t100, g91, h⟩ := bindN h
 let C91 := impl_numbers_any.con qv ql t99.2.1 t99.2.2 t100 g91
 obtain ⟨t101, g92, h⟩ := bindN h
 let C92 := impl_numbers_any.con qv ql t100.2.1 t100.2.2 t101 g92
 obtain ⟨t102, g93, h⟩ := bindN h
 let C93 := impl_numbers_next.con qv ql t101.2.1 t101.2.2 20 t102 g93
 obtain ⟨t103, g94, h⟩ := bindN h
 let C94 := impl_numbers_any.con qv ql t102.2.1 t102.2.2 t103 g94
 obtain ⟨t104, g95, h⟩ := bindN h
 let C95 := impl_numbers_next.con qv ql t103.2.1 t103.2.2 10 t104 g95
 have H2 : ∀ (kq : Nat) (v131 : Nat) (v132 : Bool) (v133 : List S53) (v134 : Int) (x : (Nat × Bool × (List S53))), impl_numbers_yardIn.l2 kq ql t102 v131 v132 v133 v134 = some x → AG prog 15 157 [.agg (rn35 r.1)] w0 (exitStk (codeOf f15) 2) (mkFS (impl_numbers_yardIn.x2T qb qv x ql t1 t2 y34 t35 t36 t37 t38 t100 t101 t102 t103 t99 y98) (impl_numbers_yardIn.x2H qb qv x ql t1 t2 y34 t35 t36 t37 t38 t100 t101 t102 t103 t99 y98)) → AG prog 15 157 [.agg (rn35 r.1)] w0 (headStk (codeOf f15) 2) (mkFS (impl_numbers_yardIn.h2T qb v134 qv v131 ql v132 t1 t2 y34 t35 t36 t37 t38 t100 t101 t102 t103 t99 y98 v133) (impl_numbers_yardIn.h2H qb v134 qv v131 ql v132 t1 t2 y34 t35 t36 t37 t38 t100 t101 t102 t103 t99 y98 v133)) := by
  intro kq
  induction kq with
  | zero => intro v131 v132 v133 v134 x h hx; cases h
  | succ kq ih =>
    intro v131 v132 v133 v134 x h hx
    rw [impl_numbers_yardIn.l2] at h
    by_cases c120 : 0 < v134
    ·replace h := ip c120 h
     obtain ⟨t135, g121, h⟩ := bindN h
     let C121 := impl_numbers_some.con qv kq ql v131 v132 (w64 (t102.1 + 1)) t135 g121
     obtain ⟨c122, h⟩ := ifN h
     exact hd func15 [.b true, .callQ C121, .aft 127, nrow 8128 S53.f0 (Value.int .i64) z53 0 ([(⟨t135.1⟩ : S53)]), .aft 128, nrow 512207 S53.f0 (Value.int .i64) z53 0 (v133 ++ [(⟨t135.1⟩ : S53)]), .fin] (oT c120 (oa (scq_ C121) (o1 (SC.of (e := (eI .i64)) (d := 0) t135.1 (by intro x; rfl)) (o1 (GEN.one S53.f0 (Value.int .i64) z53 0 (⟨t135.1⟩ : S53) rfl (fun _ => rfl)) (o1 c122 (o1 (GEN.app S53.f0 (Value.int .i64) z53 0 v133 ([(⟨t135.1⟩ : S53)])) on)))))) (ih t135.2.1 t135.2.2 (v133 ++ [(⟨t135.1⟩ : S53)]) (w64 (v134 - 1)) _ h hx)
    ·replace h := iq c120 h
     cases h
     exact st func15 [.b false, .fin] (oF c120 on) hx
 obtain ⟨y136, g155, h⟩ := bindN h
 refine hd func15 [.callQ C90, .callQ C91, .callQ C92, .callQ C93, .callQ C94, .callQ C95, .fin, .nilB 192 15 512207 53 1, .toN 512207 3, nrow 512207 S53.f0 (Value.int .i64) z53 0 ([] : List S53)] (oa (scq_ C90) (oa (scq_ C91) (oa (scq_ C92) (oa (scq_ C93) (oa (scq_ C94) (oa (scq_ C95) (o1 (nilG.zero (fun _ => [])) (o1 (GEN.nil S53.f0 (Value.int .i64) z53 0) on)))))))) (H2 k t104.2.1 t104.2.2 ([] : List S53) t104.1 _ g155 ?_)
 have H3 : ∀ (kq : Nat) (v158 : Nat) (v159 : Bool) (v160 : List S55) (v161 : Int), impl_numbers_yardIn.l3 kq y136 ql t1 t2 y34 t35 t36 t37 t38 y98 t99 t100 t101 t102 t103 v158 v159 v160 v161 = some r → AG prog 15 157 [.agg (rn35 r.1)] w0 (headStk (codeOf f15) 3) (mkFS (impl_numbers_yardIn.h3T qb y136 v161 qv v158 ql v159 t1 t2 y34 t35 t36 t37 t38 t100 t101 t102 t103 t99 y98 v160) (impl_numbers_yardIn.h3H qb y136 v161 qv v158 ql v159 t1 t2 y34 t35 t36 t37 t38 t100 t101 t102 t103 t99 y98 v160)) := by
  intro kq
  induction kq with
  | zero => intro v158 v159 v160 v161 h; cases h
  | succ kq ih =>
    intro v158 v159 v160 v161 h
    rw [impl_numbers_yardIn.l3] at h
    by_cases c148 : v161 < (y136.2.2.length : Int)
    ·replace h := ip c148 h
     obtain ⟨t162, g149, h⟩ := bindN h
     let C149 := impl_numbers_any.con qv ql v158 v159 t162 g149
     obtain ⟨t163, g150, h⟩ := bindN h
     let C150 := impl_numbers_any.con qv ql t162.2.1 t162.2.2 t163 g150
     obtain ⟨t164, g151, h⟩ := bindN h
     let C151 := impl_numbers_any.con qv ql t163.2.1 t163.2.2 t164 g151
     obtain ⟨c152, h⟩ := ifN h
     exact hd func15 [.b true, .callQ C149, .callQ C150, .callQ C151, rowe 147 e55 z55 ([(⟨t162.1, t163.1, (decide (t164.1 = 1))⟩ : S55)]), .aft 148, orow 512208 e55 z55 (v160 ++ [(⟨t162.1, t163.1, (decide (t164.1 = 1))⟩ : S55)]), .fin] (oT c148 (oa (scq_ C149) (oa (scq_ C150) (oa (scq_ C151) (o1 (GE.lit 3 e55 z55 [(⟨t162.1, t163.1, (decide (t164.1 = 1))⟩ : S55)] (by intro x; rfl)) (o1 c152 (o1 (GE.app (e := e55) (d := z55) v160 ([(⟨t162.1, t163.1, (decide (t164.1 = 1))⟩ : S55)]) rfl (fun _ _ => CE.refl _) rfl) on))))))) (ih t164.2.1 t164.2.2 (v160 ++ [(⟨t162.1, t163.1, (decide (t164.1 = 1))⟩ : S55)]) (w64 (v161 + 1)) h)
    ·replace h := iq c148 h
     obtain ⟨t165, g153, h⟩ := bindN h
     let C153 := impl_numbers_next.con qv ql v158 v159 64 t165 g153
     obtain ⟨t166, g154, h⟩ := bindN h
     let C154 := impl_numbers_some.con qv kq ql t165.2.1 t165.2.2 t165.1 t166 g154
     cases h
     exact byRetB MX func15 (T := [(0, .t (.c (.hv 0 (.pointer (some ⟨qb, 0, none⟩)))))]) hQ rfl rfl 1000 [.b false, .fin, .callQ C153, .callQ C154, .fin] (oF c148 (oa (scq_ C153) (oa (scq_ C154) on))) (by kernel_rfl)
 exact hd func15 [.fin, .nilB 192 16 512208 55 3, orow 512208 e55 z55 ([] : List S55)] (o1 (GE.nil e55 z55) on) (H3 k y136.1 y136.2.1 ([] : List S55) 0 h)
def impl_numbers_yardIn.con (qv : Value) (k : Nat) (ql : List Int) (qj : Nat) (q1 : Bool) (r : S35 × Nat × Bool) (h : impl_numbers_yardIn.f k ql qj q1 = some r) : QCon prog := ⟨15, 59, [.known (cutH qv qj) qv (R 1 (eI .i64) 0 ql), .sc (.bool q1)], [], [.known (cutH qv r.2.1) qv (R 1 (eI .i64) 0 ql), .sc (.bool r.2.2)], [.agg (rn35 r.1)], (KeepVs.cons (KeepV.cut _ _ _ _) (KeepVs.cons (KeepV.sc rfl) KeepVs.nil)), impl_numbers_yardIn.ok qv k ql qj q1 r h, impl_numbers_yardIn.go⟩
def spec_WindowNew.f (a0 : Int) (a1 : Int) : Option (S29 × Bool) := (spec_l01In.f a0 1 8).bind fun t1 => if t1 = true then ((spec_l01In.f a1 1 100).bind fun t2 => if t2 = true then (if 0 ≤ (w64 (a0 * 6)) then (if (w64 (a0 * 6)).toNat * 8 ≤ 140737488355328 then (some ((⟨a0, a1, (List.replicate (w64 (a0 * 6)).toNat 0)⟩ : S29), true)) else none) else none) else (some ((⟨0, 0, ([] : List Int)⟩ : S29), false))) else (some ((⟨0, 0, ([] : List Int)⟩ : S29), false))
theorem spec_WindowNew.go : Callable prog 69 := ⟨_, func69, by kernel_rfl, rfl⟩
theorem spec_WindowNew.ok (a0 : Int) (a1 : Int) (r : S29 × Bool) (h : spec_WindowNew.f a0 a1 = some r) : VCalls prog 69 [.c (iI a0), .c (iI a1)] [.agg (r29 r.1), .c (.p (.sc (.bool r.2)))] := by
 unfold spec_WindowNew.f at h
 refine VCalls.of (fn := f69) (N := 21) func69 rfl rfl (fun w0 => ?_)
 obtain ⟨t1, g1, h⟩ := bindN h
 let C1 := mkCon (spec_l01In.ok a0 1 8 t1 g1) spec_l01In.go
 by_cases c2 : t1 = true
 ·replace h := ip c2 h
  obtain ⟨t2, g3, h⟩ := bindN h
  let C3 := mkCon (spec_l01In.ok a1 1 100 t2 g3) spec_l01In.go
  by_cases c4 : t2 = true
  ·replace h := ip c4 h
   obtain ⟨c5, h⟩ := ifN h
   obtain ⟨c6, h⟩ := ifN h
   cases h
   exact rt func69 [.call C1, .dec 9 false, .call C3, .b false, rowe 19 (eI .i64) 0 (List.replicate (w64 (a0 * 6)).toNat 0), .fin] (oc C1 (o1 (bnf c2) (oc C3 (o1 (bnf c4) (o1 (rfl : (w64 (a0 * 6)) = (w64 (a0 * 6))) (o1 c5 (o1 (mxl (b := 8) (by decide) c6) (o1 c6 (o1 (GE.rep (e := (eI .i64)) (d := 0) (w64 (a0 * 6)).toNat (CE.refl _)) on)))))))))
  ·replace h := iq c4 h
   cases h
   exact rt func69 [.call C1, .dec 9 false, .call C3, .b true, .fin, .nilB 256 2 448258 3 1, orow 448258 (eI .i64) 0 ([] : List Int)] (oc C1 (o1 (bnf c2) (oc C3 (oN c4 (o1 (GE.nil (eI .i64) 0) on)))))
 ·replace h := iq c2 h
  cases h
  exact rt func69 [.call C1, .dec 9 true, .b true, .fin, .nilB 256 2 448258 3 1, orow 448258 (eI .i64) 0 ([] : List Int)] (oc C1 (oN c2 (oR (o1 (GE.nil (eI .i64) 0) on))))
def spec_l02Kind.f (a0 : Int) : Option Bool := if a0 = 46 then (some true) else (if a0 = 35 then (some true) else (if 97 ≤ a0 then (if a0 ≤ 102 then (some true) else (if 65 ≤ a0 then (some (decide (a0 ≤ 70))) else (some false))) else (if 65 ≤ a0 then (some (decide (a0 ≤ 70))) else (some false))))
theorem spec_l02Kind.go : Callable prog 114 := ⟨_, func114, by kernel_rfl, rfl⟩
theorem spec_l02Kind.ok (a0 : Int) (r : Bool) (h : spec_l02Kind.f a0 = some r) : VCalls prog 114 [.c (.sc (.int .u8 a0))] [.c (.p (.sc (.bool r)))] := by
 unfold spec_l02Kind.f at h
 refine VCalls.of (fn := f114) (N := 25) func114 rfl rfl (fun w0 => ?_)
 by_cases c1 : a0 = 46
 ·replace h := ip c1 h
  cases h
  exact rt func114 [.dec 5 true, .fin] (oT c1 on)
 ·replace h := iq c1 h
  by_cases c2 : a0 = 35
  ·replace h := ip c2 h
   cases h
   exact rt func114 [.dec 5 false, .dec 9 true, .fin] (oF c1 (oT c2 on))
  ·replace h := iq c2 h
   by_cases c3 : 97 ≤ a0
   ·replace h := ip c3 h
    by_cases c4 : a0 ≤ 102
    ·replace h := ip c4 h
     cases h
     exact rt func114 [.dec 5 false, .dec 9 false, .dec 12 true, .dec 17 true, .fin] (oF c1 (oF c2 (oT c3 (oT c4 on))))
    ·replace h := iq c4 h
     by_cases c5 : 65 ≤ a0
     ·replace h := ip c5 h
      cases h
      exact rt func114 [.dec 5 false, .dec 9 false, .dec 12 true, .dec 17 false, .dec 20 true, .fin] (oF c1 (oF c2 (oT c3 (oF c4 (oT c5 on)))))
     ·replace h := iq c5 h
      cases h
      exact rt func114 [.dec 5 false, .dec 9 false, .dec 12 true, .dec 17 false, .dec 20 false, .fin] (oF c1 (oF c2 (oT c3 (oF c4 (oF c5 on)))))
   ·replace h := iq c3 h
    by_cases c6 : 65 ≤ a0
    ·replace h := ip c6 h
     cases h
     exact rt func114 [.dec 5 false, .dec 9 false, .dec 12 false, .dec 20 true, .fin] (oF c1 (oF c2 (oF c3 (oT c6 on))))
    ·replace h := iq c6 h
     cases h
     exact rt func114 [.dec 5 false, .dec 9 false, .dec 12 false, .dec 20 false, .fin] (oF c1 (oF c2 (oF c3 (oF c6 on))))
def spec_GridOk.h0T (v4 : Int) (a0 : S24) : List (Nat × AV) := [(1, .ptr 64 0), (3, .t (.c (.p true (iI v4))))]
def spec_GridOk.h0H (v4 : Int) (a0 : S24) : List (Nat × Content) := [(64, .box 24 [.p false (iI a0.f0), .p false (iI a0.f1), .p false (.sc (.string a0.f2))])]
def spec_GridOk.l0 : Nat → S24 → Int → Option Bool
 | 0, _, _ => none
 | kq + 1, a0, v4 => if v4 < (a0.f2.size : Int) then (if 0 ≤ v4 then ((spec_l02Kind.f (bt a0.f2 v4)).bind fun t5 => if t5 = true then (spec_GridOk.l0 kq a0 (w64 (v4 + 1))) else (some false)) else none) else (some true)
def spec_GridOk.f (k : Nat) (a0 : S24) : Option Bool := (spec_l01In.f a0.f0 1 8).bind fun t1 => if t1 = true then ((spec_l01In.f a0.f1 1 8).bind fun t2 => if t2 = true then (if (a0.f2.size : Int) = (w64 (a0.f0 * a0.f1)) then (spec_GridOk.l0 k a0 0) else (some false)) else (some false)) else (some false)
theorem spec_GridOk.go : Callable prog 70 := ⟨_, func70, by kernel_rfl, rfl⟩
theorem spec_GridOk.ok (k : Nat) (a0 : S24) (r : Bool) (h : spec_GridOk.f k a0 = some r) : VCalls prog 70 [.agg (e24 a0)] [.c (.p (.sc (.bool r)))] := by
 unfold spec_GridOk.f at h
 refine VCalls.of (fn := f70) (N := 38) func70 rfl rfl (fun w0 => ?_)
 obtain ⟨t1, g1, h⟩ := bindN h
 let C1 := mkCon (spec_l01In.ok a0.f0 1 8 t1 g1) spec_l01In.go
 by_cases c2 : t1 = true
 ·replace h := ip c2 h
  obtain ⟨t2, g3, h⟩ := bindN h
  let C3 := mkCon (spec_l01In.ok a0.f1 1 8 t2 g3) spec_l01In.go
  by_cases c4 : t2 = true
  ·replace h := ip c4 h
   by_cases c5 : (a0.f2.size : Int) = (w64 (a0.f0 * a0.f1))
   ·replace h := ip c5 h
    have H0 : ∀ (kq : Nat) (v4 : Int), spec_GridOk.l0 kq a0 v4 = some r → AG prog 70 38 [.c (.p (.sc (.bool r)))] w0 (headStk (codeOf f70) 0) (mkFS (spec_GridOk.h0T v4 a0) (spec_GridOk.h0H v4 a0)) := by
     intro kq
     induction kq with
     | zero => intro v4 h; cases h
     | succ kq ih =>
       intro v4 h
       rw [spec_GridOk.l0] at h
       by_cases c9 : v4 < (a0.f2.size : Int)
       ·replace h := ip c9 h
        obtain ⟨c10, h⟩ := ifN h
        obtain ⟨t5, g11, h⟩ := bindN h
        let C11 := mkCon (spec_l02Kind.ok (bt a0.f2 v4) t5 g11) spec_l02Kind.go
        by_cases c12 : t5 = true
        ·replace h := ip c12 h
         exact hd func70 [.b true, .call C11, .b false, .fin] (oT c9 (o1 c10 (o1 c9 (oc C11 (o1 (bnf c12) on))))) (ih (w64 (v4 + 1)) h)
        ·replace h := iq c12 h
         cases h
         exact rt func70 [.b true, .call C11, .b true, .fin] (oT c9 (o1 c10 (o1 c9 (oc C11 (oN c12 on)))))
       ·replace h := iq c9 h
        cases h
        exact rt func70 [.b false, .fin, .fin] (oF c9 on)
    exact hd func70 [.call C1, .dec 8 false, .call C3, .dec 14 false, .b false, .fin] (oc C1 (o1 (bnf c2) (oc C3 (o1 (bnf c4) (o1 (bnf (decide_eq_true c5)) on))))) (H0 k 0 h)
   ·replace h := iq c5 h
    cases h
    exact rt func70 [.call C1, .dec 8 false, .call C3, .dec 14 false, .b true, .fin] (oc C1 (o1 (bnf c2) (oc C3 (o1 (bnf c4) (o1 (bnt (decide_eq_false c5)) on)))))
  ·replace h := iq c4 h
   cases h
   exact rt func70 [.call C1, .dec 8 false, .call C3, .dec 14 true, .b true, .fin] (oc C1 (o1 (bnf c2) (oc C3 (oN c4 (oR on)))))
 ·replace h := iq c2 h
  cases h
  exact rt func70 [.call C1, .dec 8 true, .b true, .fin] (oc C1 (oN c2 (oR on)))
def spec_SetupOk.f (k : Nat) (a0 : S26) : Option Bool := (spec_WindowNew.f a0.f2 a0.f3).bind fun t1 => (spec_GridOk.f k a0.f0).bind fun t2 => if t2 = true then ((spec_l01In.f a0.f1 1 20).bind fun t3 => if t3 = true then (if t1.2 = true then ((spec_l01In.f a0.f4 0 20).bind fun t4 => some t4) else (some false)) else (some false)) else (some false)
theorem spec_SetupOk.go : Callable prog 34 := ⟨_, func34, by kernel_rfl, rfl⟩
theorem spec_SetupOk.ok (k : Nat) (a0 : S26) (r : Bool) (h : spec_SetupOk.f k a0 = some r) : VCalls prog 34 [.agg (e26 a0)] [.c (.p (.sc (.bool r)))] := by
 unfold spec_SetupOk.f at h
 refine VCalls.of (fn := f34) (N := 29) func34 rfl rfl (fun w0 => ?_)
 obtain ⟨t1, g1, h⟩ := bindN h
 let C1 := mkCon (spec_WindowNew.ok a0.f2 a0.f3 t1 g1) spec_WindowNew.go
 obtain ⟨t2, g2, h⟩ := bindN h
 let C2 := mkCon (spec_GridOk.ok k a0.f0 t2 g2) spec_GridOk.go
 by_cases c3 : t2 = true
 ·replace h := ip c3 h
  obtain ⟨t3, g4, h⟩ := bindN h
  let C4 := mkCon (spec_l01In.ok a0.f1 1 20 t3 g4) spec_l01In.go
  by_cases c5 : t3 = true
  ·replace h := ip c5 h
   by_cases c6 : t1.2 = true
   ·replace h := ip c6 h
    obtain ⟨t4, g7, h⟩ := bindN h
    let C7 := mkCon (spec_l01In.ok a0.f4 0 20 t4 g7) spec_l01In.go
    cases h
    exact rt func34 [.call C1, .call C2, .dec 16 true, .call C4, .dec 21 true, .dec 24 true, .call C7, .fin] (oc C1 (oc C2 (o1 c3 (oc C4 (o1 c5 (o1 c6 (oc C7 on)))))))
   ·replace h := iq c6 h
    cases h
    exact rt func34 [.call C1, .call C2, .dec 16 true, .call C4, .dec 21 true, .dec 24 false, .fin] (oc C1 (oc C2 (o1 c3 (oc C4 (o1 c5 (o1 (eqf c6) on))))))
  ·replace h := iq c5 h
   cases h
   exact rt func34 [.call C1, .call C2, .dec 16 true, .call C4, .dec 21 false, .fin] (oc C1 (oc C2 (o1 c3 (oc C4 (o1 (eqf c5) on)))))
 ·replace h := iq c3 h
  cases h
  exact rt func34 [.call C1, .call C2, .dec 16 false, .fin] (oc C1 (oc C2 (o1 (eqf c3) on)))
def spec_FreeAt.f (k : Nat) (a0 : S24) (a1 : Int) : Option Bool := (spec_GridOk.f k a0).bind fun t1 => if t1 = true then (if 0 ≤ a1 then (if a1 < (a0.f2.size : Int) then (some (!decide ((bt a0.f2 a1) = 35))) else (some false)) else (some false)) else (some false)
theorem spec_FreeAt.go : Callable prog 71 := ⟨_, func71, by kernel_rfl, rfl⟩
theorem spec_FreeAt.ok (k : Nat) (a0 : S24) (a1 : Int) (r : Bool) (h : spec_FreeAt.f k a0 a1 = some r) : VCalls prog 71 [.agg (e24 a0), .c (iI a1)] [.c (.p (.sc (.bool r)))] := by
 unfold spec_FreeAt.f at h
 refine VCalls.of (fn := f71) (N := 25) func71 rfl rfl (fun w0 => ?_)
 obtain ⟨t1, g1, h⟩ := bindN h
 let C1 := mkCon (spec_GridOk.ok k a0 t1 g1) spec_GridOk.go
 by_cases c2 : t1 = true
 ·replace h := ip c2 h
  by_cases c3 : 0 ≤ a1
  ·replace h := ip c3 h
   by_cases c4 : a1 < (a0.f2.size : Int)
   ·replace h := ip c4 h
    cases h
    exact rt func71 [.call C1, .dec 7 true, .dec 11 true, .dec 18 true, .fin] (oc C1 (o1 c2 (oT c3 (oT c4 (o1 c3 (o1 c4 on))))))
   ·replace h := iq c4 h
    cases h
    exact rt func71 [.call C1, .dec 7 true, .dec 11 true, .dec 18 false, .fin] (oc C1 (o1 c2 (oT c3 (oF c4 on))))
  ·replace h := iq c3 h
   cases h
   exact rt func71 [.call C1, .dec 7 true, .dec 11 false, .fin] (oc C1 (o1 c2 (oF c3 on)))
 ·replace h := iq c2 h
  cases h
  exact rt func71 [.call C1, .dec 7 false, .fin] (oc C1 (o1 (eqf c2) on))
def spec_HolderOf.h0T (a0 : List S51) (a1 : Int) (v1 : Int) : List (Nat × AV) := [(0, .t (.c (.p false (R 4 e51 z51 a0)))), (1, .t (.c (.p false (iI a1)))), (5, .t (.c (.p true (iI v1))))]
def spec_HolderOf.h0H (a0 : List S51) (a1 : Int) (v1 : Int) : List (Nat × Content) := []
def spec_HolderOf.l0 : Nat → List S51 → Int → Int → Option Int
 | 0, _, _, _ => none
 | kq + 1, a0, a1, v1 => if v1 < (a0.length : Int) then (if 0 ≤ a1 then (if 0 ≤ v1 then (if (rdD z51 a0 v1).f1 = a1 then (some ((rdD z51 a0 v1).f0)) else (if (rdD z51 a0 v1).f2 = a1 then (some ((rdD z51 a0 v1).f0)) else (spec_HolderOf.l0 kq a0 a1 (w64 (v1 + 1))))) else none) else (some (-1))) else (some (-1))
def spec_HolderOf.f (k : Nat) (a0 : List S51) (a1 : Int) : Option Int := spec_HolderOf.l0 k a0 a1 0
theorem spec_HolderOf.go : Callable prog 73 := ⟨_, func73, by kernel_rfl, rfl⟩
theorem spec_HolderOf.ok (k : Nat) (a0 : List S51) (a1 : Int) (r : Int) (h : spec_HolderOf.f k a0 a1 = some r) : VCalls prog 73 [.c (R 4 e51 z51 a0), .c (iI a1)] [.c (.p (iI r))] := by
 unfold spec_HolderOf.f at h
 refine VCalls.of (fn := f73) (N := 37) func73 rfl rfl (fun w0 => ?_)
 have H0 : ∀ (kq : Nat) (v1 : Int), spec_HolderOf.l0 kq a0 a1 v1 = some r → AG prog 73 37 [.c (.p (iI r))] w0 (headStk (codeOf f73) 0) (mkFS (spec_HolderOf.h0T a0 a1 v1) (spec_HolderOf.h0H a0 a1 v1)) := by
  intro kq
  induction kq with
  | zero => intro v1 h; cases h
  | succ kq ih =>
    intro v1 h
    rw [spec_HolderOf.l0] at h
    by_cases c5 : v1 < (a0.length : Int)
    ·replace h := ip c5 h
     by_cases c6 : 0 ≤ a1
     ·replace h := ip c6 h
      obtain ⟨c7, h⟩ := ifN h
      by_cases c8 : (rdD z51 a0 v1).f1 = a1
      ·replace h := ip c8 h
       cases h
       exact rt func73 [.dec 10 true, .b true, .dec 23 true, .b true, .fin] (oT c5 (oT c6 (o1 c7 (o1 c5 (oT c8 (oR (o1 c7 (o1 c5 on))))))))
      ·replace h := iq c8 h
       by_cases c9 : (rdD z51 a0 v1).f2 = a1
       ·replace h := ip c9 h
        cases h
        exact rt func73 [.dec 10 true, .b true, .dec 23 false, .b true, .fin] (oT c5 (oT c6 (o1 c7 (o1 c5 (oF c8 (o1 c7 (o1 c5 (oT c9 (o1 c7 (o1 c5 on))))))))))
       ·replace h := iq c9 h
        exact hd func73 [.dec 10 true, .b true, .dec 23 false, .b false, .fin] (oT c5 (oT c6 (o1 c7 (o1 c5 (oF c8 (o1 c7 (o1 c5 (oF c9 on)))))))) (ih (w64 (v1 + 1)) h)
     ·replace h := iq c6 h
      cases h
      exact rt func73 [.dec 10 true, .b false, .fin, .fin] (oT c5 (oF c6 on))
    ·replace h := iq c5 h
     cases h
     exact rt func73 [.dec 10 false, .b false, .fin, .fin] (oF c5 (o1 (rfl : false = false) on))
 exact hd func73 [.fin] on (H0 k 0 h)
def spec_SpotOf.f (k : Nat) (a0 : S24) (a1 : Int) : Option (Int × Int) := (spec_GridOk.f k a0).bind fun t1 => if t1 = true then (if a1 < 0 then (some ((-1), (-1))) else (if (a0.f2.size : Int) ≤ a1 then (some ((-1), (-1))) else (if a0.f0 ≠ 0 then (some ((a1.tmod a0.f0), (w64 (a1.tdiv a0.f0)))) else none))) else (some ((-1), (-1)))
theorem spec_SpotOf.go : Callable prog 134 := ⟨_, func134, by kernel_rfl, rfl⟩
theorem spec_SpotOf.ok (k : Nat) (a0 : S24) (a1 : Int) (r : Int × Int) (h : spec_SpotOf.f k a0 a1 = some r) : VCalls prog 134 [.agg (e24 a0), .c (iI a1)] [.c (.p (iI r.1)), .c (.p (iI r.2))] := by
 unfold spec_SpotOf.f at h
 refine VCalls.of (fn := f134) (N := 28) func134 rfl rfl (fun w0 => ?_)
 obtain ⟨t1, g1, h⟩ := bindN h
 let C1 := mkCon (spec_GridOk.ok k a0 t1 g1) spec_GridOk.go
 by_cases c2 : t1 = true
 ·replace h := ip c2 h
  by_cases c3 : a1 < 0
  ·replace h := ip c3 h
   cases h
   exact rt func134 [.call C1, .dec 9 false, .dec 13 true, .b true, .fin] (oc C1 (o1 (bnf c2) (oT c3 (oR on))))
  ·replace h := iq c3 h
   by_cases c4 : (a0.f2.size : Int) ≤ a1
   ·replace h := ip c4 h
    cases h
    exact rt func134 [.call C1, .dec 9 false, .dec 13 false, .b true, .fin] (oc C1 (o1 (bnf c2) (oF c3 (oT c4 on))))
   ·replace h := iq c4 h
    obtain ⟨c5, h⟩ := ifN h
    cases h
    exact rt func134 [.call C1, .dec 9 false, .dec 13 false, .b false, .fin] (oc C1 (o1 (bnf c2) (oF c3 (oF c4 (o1 c5 (o1 c5 on))))))
 ·replace h := iq c2 h
  cases h
  exact rt func134 [.call C1, .dec 9 true, .b true, .fin] (oc C1 (oN c2 (oR on)))
def spec_CellAt.f (k : Nat) (a0 : S24) (a1 : Int) (a2 : Int) : Option Int := (spec_GridOk.f k a0).bind fun t1 => if t1 = true then ((spec_l01In.f a1 0 (w64 (a0.f0 - 1))).bind fun t2 => if t2 = true then ((spec_l01In.f a2 0 (w64 (a0.f1 - 1))).bind fun t3 => if t3 = true then (some (w64 ((w64 (a2 * a0.f0)) + a1))) else (some (-1))) else (some (-1))) else (some (-1))
theorem spec_CellAt.go : Callable prog 135 := ⟨_, func135, by kernel_rfl, rfl⟩
theorem spec_CellAt.ok (k : Nat) (a0 : S24) (a1 : Int) (a2 : Int) (r : Int) (h : spec_CellAt.f k a0 a1 a2 = some r) : VCalls prog 135 [.agg (e24 a0), .c (iI a1), .c (iI a2)] [.c (.p (iI r))] := by
 unfold spec_CellAt.f at h
 refine VCalls.of (fn := f135) (N := 32) func135 rfl rfl (fun w0 => ?_)
 obtain ⟨t1, g1, h⟩ := bindN h
 let C1 := mkCon (spec_GridOk.ok k a0 t1 g1) spec_GridOk.go
 by_cases c2 : t1 = true
 ·replace h := ip c2 h
  obtain ⟨t2, g3, h⟩ := bindN h
  let C3 := mkCon (spec_l01In.ok a1 0 (w64 (a0.f0 - 1)) t2 g3) spec_l01In.go
  by_cases c4 : t2 = true
  ·replace h := ip c4 h
   obtain ⟨t3, g5, h⟩ := bindN h
   let C5 := mkCon (spec_l01In.ok a2 0 (w64 (a0.f1 - 1)) t3 g5) spec_l01In.go
   by_cases c6 : t3 = true
   ·replace h := ip c6 h
    cases h
    exact rt func135 [.call C1, .dec 10 false, .call C3, .dec 18 false, .call C5, .b false, .fin] (oc C1 (o1 (bnf c2) (oc C3 (o1 (bnf c4) (oc C5 (o1 (bnf c6) on))))))
   ·replace h := iq c6 h
    cases h
    exact rt func135 [.call C1, .dec 10 false, .call C3, .dec 18 false, .call C5, .b true, .fin] (oc C1 (o1 (bnf c2) (oc C3 (o1 (bnf c4) (oc C5 (oN c6 on))))))
  ·replace h := iq c4 h
   cases h
   exact rt func135 [.call C1, .dec 10 false, .call C3, .dec 18 true, .b true, .fin] (oc C1 (o1 (bnf c2) (oc C3 (oN c4 (oR on)))))
 ·replace h := iq c2 h
  cases h
  exact rt func135 [.call C1, .dec 10 true, .b true, .fin] (oc C1 (oN c2 (oR on)))
def spec_Around.h0T (v11 : Int) (a0 : S24) (v10 : List Int) (t3 : Int) (t4 : Int) (t5 : Int) (t6 : Int) : List (Nat × AV) := [(2, .ptr 128 0), (5, .t (.c (.h 640))), (8, .t (.c (.h 2688))), (9, .t (.c (.p true (iI v11))))]
def spec_Around.h0H (v11 : Int) (a0 : S24) (v10 : List Int) (t3 : Int) (t4 : Int) (t5 : Int) (t6 : Int) : List (Nat × Content) := [(128, .box 24 [.p false (iI a0.f0), .p false (iI a0.f1), .p false (.sc (.string a0.f2))]), (640, .row 3 1 v10.length (fun j => (eI .i64) (v10.getD j 0)) true), (2688, .row 3 1 ([t3, t4, t5, t6]).length (fun j => (eI .i64) (([t3, t4, t5, t6]).getD j 0)) true)]
def spec_Around.l0 : Nat → Int → Int → Int → Int → S24 → List Int → Int → Option (List Int)
 | 0, _, _, _, _, _, _, _ => none
 | kq + 1, t3, t4, t5, t6, a0, v10, v11 => if v11 < 4 then (if 0 ≤ v11 then (if v11 < (([t3, t4, t5, t6]).length : Int) then ((spec_FreeAt.f kq a0 (rdD 0 ([t3, t4, t5, t6]) v11)).bind fun t12 => if t12 = true then (if (v10.length + 1) * 8 ≤ 140737488355328 then (spec_Around.l0 kq t3 t4 t5 t6 a0 (v10 ++ [(rdD 0 ([t3, t4, t5, t6]) v11)]) (w64 (v11 + 1))) else none) else (spec_Around.l0 kq t3 t4 t5 t6 a0 v10 (w64 (v11 + 1)))) else none) else none) else (some v10)
def spec_Around.f (k : Nat) (a0 : S24) (a1 : Int) : Option (List Int) := (spec_FreeAt.f k a0 a1).bind fun t1 => if t1 = true then ((spec_SpotOf.f k a0 a1).bind fun t2 => (spec_CellAt.f k a0 t2.1 (w64 (t2.2 - 1))).bind fun t3 => (spec_CellAt.f k a0 (w64 (t2.1 - 1)) t2.2).bind fun t4 => (spec_CellAt.f k a0 (w64 (t2.1 + 1)) t2.2).bind fun t5 => (spec_CellAt.f k a0 t2.1 (w64 (t2.2 + 1))).bind fun t6 => spec_Around.l0 k t3 t4 t5 t6 a0 ([] : List Int) 0) else (some ([] : List Int))
theorem spec_Around.go : Callable prog 115 := ⟨_, func115, by kernel_rfl, rfl⟩
theorem spec_Around.ok (k : Nat) (a0 : S24) (a1 : Int) (r : (List Int)) (h : spec_Around.f k a0 a1 = some r) : VCalls prog 115 [.agg (e24 a0), .c (iI a1)] [.c (.own 3 1 r.length (fun j => (eI .i64) (r.getD j 0)))] := by
 unfold spec_Around.f at h
 refine VCalls.of (fn := f115) (N := 61) func115 rfl rfl (fun w0 => ?_)
 obtain ⟨t1, g1, h⟩ := bindN h
 let C1 := mkCon (spec_FreeAt.ok k a0 a1 t1 g1) spec_FreeAt.go
 by_cases c2 : t1 = true
 ·replace h := ip c2 h
  obtain ⟨t2, g3, h⟩ := bindN h
  let C3 := mkCon (spec_SpotOf.ok k a0 a1 t2 g3) spec_SpotOf.go
  obtain ⟨t3, g4, h⟩ := bindN h
  let C4 := mkCon (spec_CellAt.ok k a0 t2.1 (w64 (t2.2 - 1)) t3 g4) spec_CellAt.go
  obtain ⟨t4, g5, h⟩ := bindN h
  let C5 := mkCon (spec_CellAt.ok k a0 (w64 (t2.1 - 1)) t2.2 t4 g5) spec_CellAt.go
  obtain ⟨t5, g6, h⟩ := bindN h
  let C6 := mkCon (spec_CellAt.ok k a0 (w64 (t2.1 + 1)) t2.2 t5 g6) spec_CellAt.go
  obtain ⟨t6, g7, h⟩ := bindN h
  let C7 := mkCon (spec_CellAt.ok k a0 t2.1 (w64 (t2.2 + 1)) t6 g7) spec_CellAt.go
  have H0 : ∀ (kq : Nat) (v10 : List Int) (v11 : Int), spec_Around.l0 kq t3 t4 t5 t6 a0 v10 v11 = some r → AG prog 115 61 [.c (.own 3 1 r.length (fun j => (eI .i64) (r.getD j 0)))] w0 (headStk (codeOf f115) 0) (mkFS (spec_Around.h0T v11 a0 v10 t3 t4 t5 t6) (spec_Around.h0H v11 a0 v10 t3 t4 t5 t6)) := by
   intro kq
   induction kq with
   | zero => intro v10 v11 h; cases h
   | succ kq ih =>
     intro v10 v11 h
     rw [spec_Around.l0] at h
     by_cases c19 : v11 < 4
     ·replace h := ip c19 h
      obtain ⟨c20, h⟩ := ifN h
      obtain ⟨c21, h⟩ := ifN h
      obtain ⟨t12, g22, h⟩ := bindN h
      let C22 := mkCon (spec_FreeAt.ok kq a0 (rdD 0 ([t3, t4, t5, t6]) v11) t12 g22) spec_FreeAt.go
      by_cases c23 : t12 = true
      ·replace h := ip c23 h
       obtain ⟨c24, h⟩ := ifN h
       exact hd func115 [.b true, .call C22, .b true, rowe 58 (eI .i64) 0 ([(rdD 0 ([t3, t4, t5, t6]) v11)]), .aft 59, orow 640 (eI .i64) 0 (v10 ++ [(rdD 0 ([t3, t4, t5, t6]) v11)]), .fin] (oT c19 (o1 c20 (o1 c21 (oc C22 (o1 c23 (o1 c20 (o1 c21 (o1 (GE.lit 1 (eI .i64) 0 [(rdD 0 ([t3, t4, t5, t6]) v11)] (by intro x; rfl)) (o1 c24 (o1 (GE.app (e := (eI .i64)) (d := 0) v10 ([(rdD 0 ([t3, t4, t5, t6]) v11)]) rfl (fun _ _ => CE.refl _) rfl) on)))))))))) (ih (v10 ++ [(rdD 0 ([t3, t4, t5, t6]) v11)]) (w64 (v11 + 1)) h)
      ·replace h := iq c23 h
       exact hd func115 [.b true, .call C22, .b false, .fin] (oT c19 (o1 c20 (o1 c21 (oc C22 (o1 (eqf c23) on))))) (ih v10 (w64 (v11 + 1)) h)
     ·replace h := iq c19 h
      cases h
      exact rt func115 [.b false, .fin, .fin] (oF c19 on)
  exact hd func115 [rowe 10 (eI .i64) 0 ([] : List Int), .call C1, .b false, .call C3, .call C4, .call C5, .call C6, .call C7, rowe 42 (eI .i64) 0 ([t3, t4, t5, t6]), .fin] (o1 (GE.lit 1 (eI .i64) 0 ([] : List Int) (by intro x; rfl)) (oc C1 (o1 (bnf c2) (oc C3 (oc C4 (oc C5 (oc C6 (oc C7 (o1 (GE.lit 1 (eI .i64) 0 [t3, t4, t5, t6] (by intro x; rfl)) on))))))))) (H0 k ([] : List Int) 0 h)
 ·replace h := iq c2 h
  cases h
  exact rt func115 [rowe 10 (eI .i64) 0 ([] : List Int), .call C1, .b true, .fin] (o1 (GE.lit 1 (eI .i64) 0 ([] : List Int) (by intro x; rfl)) (oc C1 (oN c2 on)))
def spec_l03Has.h0T (a0 : List Int) (a1 : Int) (v1 : Int) : List (Nat × AV) := [(0, .t (.c (.p false (R 1 (eI .i64) 0 a0)))), (1, .t (.c (.p false (iI a1)))), (5, .t (.c (.p true (iI v1))))]
def spec_l03Has.h0H (a0 : List Int) (a1 : Int) (v1 : Int) : List (Nat × Content) := []
def spec_l03Has.l0 : Nat → List Int → Int → Int → Option Bool
 | 0, _, _, _ => none
 | kq + 1, a0, a1, v1 => if v1 < (a0.length : Int) then (if 0 ≤ v1 then (if (rdD 0 a0 v1) = a1 then (some true) else (spec_l03Has.l0 kq a0 a1 (w64 (v1 + 1)))) else none) else (some false)
def spec_l03Has.f (k : Nat) (a0 : List Int) (a1 : Int) : Option Bool := spec_l03Has.l0 k a0 a1 0
theorem spec_l03Has.go : Callable prog 40 := ⟨_, func40, by kernel_rfl, rfl⟩
theorem spec_l03Has.ok (k : Nat) (a0 : List Int) (a1 : Int) (r : Bool) (h : spec_l03Has.f k a0 a1 = some r) : VCalls prog 40 [.c (R 1 (eI .i64) 0 a0), .c (iI a1)] [.c (.p (.sc (.bool r)))] := by
 unfold spec_l03Has.f at h
 refine VCalls.of (fn := f40) (N := 18) func40 rfl rfl (fun w0 => ?_)
 have H0 : ∀ (kq : Nat) (v1 : Int), spec_l03Has.l0 kq a0 a1 v1 = some r → AG prog 40 18 [.c (.p (.sc (.bool r)))] w0 (headStk (codeOf f40) 0) (mkFS (spec_l03Has.h0T a0 a1 v1) (spec_l03Has.h0H a0 a1 v1)) := by
  intro kq
  induction kq with
  | zero => intro v1 h; cases h
  | succ kq ih =>
    intro v1 h
    rw [spec_l03Has.l0] at h
    by_cases c3 : v1 < (a0.length : Int)
    ·replace h := ip c3 h
     obtain ⟨c4, h⟩ := ifN h
     by_cases c5 : (rdD 0 a0 v1) = a1
     ·replace h := ip c5 h
      cases h
      exact rt func40 [.b true, .b true, .fin] (oT c3 (o1 c4 (o1 c3 (oT c5 on))))
     ·replace h := iq c5 h
      exact hd func40 [.b true, .b false, .fin] (oT c3 (o1 c4 (o1 c3 (oF c5 on)))) (ih (w64 (v1 + 1)) h)
    ·replace h := iq c3 h
     cases h
     exact rt func40 [.b false, .fin, .fin] (oF c3 on)
 exact hd func40 [.fin] on (H0 k 0 h)
def spec_Beside.f (k : Nat) (a0 : S24) (a1 : Int) (a2 : Int) : Option Bool := (spec_Around.f k a0 a1).bind fun t1 => (spec_l03Has.f k t1 a2).bind fun t2 => some t2
theorem spec_Beside.go : Callable prog 72 := ⟨_, func72, by kernel_rfl, rfl⟩
theorem spec_Beside.ok (k : Nat) (a0 : S24) (a1 : Int) (a2 : Int) (r : Bool) (h : spec_Beside.f k a0 a1 a2 = some r) : VCalls prog 72 [.agg (e24 a0), .c (iI a1), .c (iI a2)] [.c (.p (.sc (.bool r)))] := by
 unfold spec_Beside.f at h
 refine VCalls.of (fn := f72) (N := 12) func72 rfl rfl (fun w0 => ?_)
 obtain ⟨t1, g1, h⟩ := bindN h
 let C1 := mkCon (spec_Around.ok k a0 a1 t1 g1) spec_Around.go
 obtain ⟨t2, g2, h⟩ := bindN h
 let C2 := mkCon (spec_l03Has.ok k t1 a2 t2 g2) spec_l03Has.go
 cases h
 exact rt func72 [.call C1, .call C2, .fin] (oc C1 (oc C2 on))
def spec_RobotsOk.h0T (a1 : List S51) (v6 : Int) (a0 : S24) : List (Nat × AV) := [(1, .t (.c (.p false (R 4 e51 z51 a1)))), (2, .ptr 128 0), (5, .t (.c (.p true (iI v6))))]
def spec_RobotsOk.h0H (a1 : List S51) (v6 : Int) (a0 : S24) : List (Nat × Content) := [(128, .box 24 [.p false (iI a0.f0), .p false (iI a0.f1), .p false (.sc (.string a0.f2))])]
def spec_RobotsOk.l0 : Nat → List S51 → S24 → Int → Option Bool
 | 0, _, _, _ => none
 | kq + 1, a1, a0, v6 => if v6 < (a1.length : Int) then (if 0 ≤ v6 then ((spec_l01In.f ((rdD z51 a1 v6).f0) 0 99).bind fun t7 => if t7 = true then (if 0 < v6 then (if 0 ≤ (w64 (v6 - 1)) then (if (w64 (v6 - 1)) < (a1.length : Int) then (if (rdD z51 a1 v6).f0 ≤ (rdD z51 a1 (w64 (v6 - 1))).f0 then (some false) else ((spec_FreeAt.f kq a0 ((rdD z51 a1 v6).f1)).bind fun t8 => if t8 = true then (if (rdD z51 a1 v6).f2 = (-1) then (if v6 ≤ (a1.length : Int) then ((spec_HolderOf.f kq ((a1.drop (0 : Int).toNat).take (v6.toNat - (0 : Int).toNat)) ((rdD z51 a1 v6).f1)).bind fun t9 => if 0 ≤ t9 then (some false) else ((spec_HolderOf.f kq ((a1.drop (0 : Int).toNat).take (v6.toNat - (0 : Int).toNat)) ((rdD z51 a1 v6).f2)).bind fun t10 => if 0 ≤ t10 then (some false) else (spec_RobotsOk.l0 kq a1 a0 (w64 (v6 + 1))))) else none) else ((spec_Beside.f kq a0 ((rdD z51 a1 v6).f1) ((rdD z51 a1 v6).f2)).bind fun t11 => if t11 = true then (if v6 ≤ (a1.length : Int) then ((spec_HolderOf.f kq ((a1.drop (0 : Int).toNat).take (v6.toNat - (0 : Int).toNat)) ((rdD z51 a1 v6).f1)).bind fun t12 => if 0 ≤ t12 then (some false) else ((spec_HolderOf.f kq ((a1.drop (0 : Int).toNat).take (v6.toNat - (0 : Int).toNat)) ((rdD z51 a1 v6).f2)).bind fun t13 => if 0 ≤ t13 then (some false) else (spec_RobotsOk.l0 kq a1 a0 (w64 (v6 + 1))))) else none) else (some false))) else (some false))) else none) else none) else ((spec_FreeAt.f kq a0 ((rdD z51 a1 v6).f1)).bind fun t14 => if t14 = true then (if (rdD z51 a1 v6).f2 = (-1) then (if v6 ≤ (a1.length : Int) then ((spec_HolderOf.f kq ((a1.drop (0 : Int).toNat).take (v6.toNat - (0 : Int).toNat)) ((rdD z51 a1 v6).f1)).bind fun t15 => if 0 ≤ t15 then (some false) else ((spec_HolderOf.f kq ((a1.drop (0 : Int).toNat).take (v6.toNat - (0 : Int).toNat)) ((rdD z51 a1 v6).f2)).bind fun t16 => if 0 ≤ t16 then (some false) else (spec_RobotsOk.l0 kq a1 a0 (w64 (v6 + 1))))) else none) else ((spec_Beside.f kq a0 ((rdD z51 a1 v6).f1) ((rdD z51 a1 v6).f2)).bind fun t17 => if t17 = true then (if v6 ≤ (a1.length : Int) then ((spec_HolderOf.f kq ((a1.drop (0 : Int).toNat).take (v6.toNat - (0 : Int).toNat)) ((rdD z51 a1 v6).f1)).bind fun t18 => if 0 ≤ t18 then (some false) else ((spec_HolderOf.f kq ((a1.drop (0 : Int).toNat).take (v6.toNat - (0 : Int).toNat)) ((rdD z51 a1 v6).f2)).bind fun t19 => if 0 ≤ t19 then (some false) else (spec_RobotsOk.l0 kq a1 a0 (w64 (v6 + 1))))) else none) else (some false))) else (some false))) else (some false)) else none) else (some true)
def spec_RobotsOk.f (k : Nat) (a0 : S24) (a1 : List S51) : Option Bool := (spec_GridOk.f k a0).bind fun t1 => if t1 = true then (if 10 < (a1.length : Int) then (some false) else (spec_RobotsOk.l0 k a1 a0 0)) else (some false)
theorem spec_RobotsOk.go : Callable prog 35 := ⟨_, func35, by kernel_rfl, rfl⟩
theorem spec_RobotsOk.ok (k : Nat) (a0 : S24) (a1 : List S51) (r : Bool) (h : spec_RobotsOk.f k a0 a1 = some r) : VCalls prog 35 [.agg (e24 a0), .c (R 4 e51 z51 a1)] [.c (.p (.sc (.bool r)))] := by
 unfold spec_RobotsOk.f at h
 refine VCalls.of (fn := f35) (N := 81) func35 rfl rfl (fun w0 => ?_)
 obtain ⟨t1, g1, h⟩ := bindN h
 let C1 := mkCon (spec_GridOk.ok k a0 t1 g1) spec_GridOk.go
 by_cases c2 : t1 = true
 ·replace h := ip c2 h
  by_cases c3 : 10 < (a1.length : Int)
  ·replace h := ip c3 h
   cases h
   exact rt func35 [.call C1, .dec 10 false, .b true, .fin] (oc C1 (o1 (bnf c2) (oT c3 on)))
  ·replace h := iq c3 h
   have H0 : ∀ (kq : Nat) (v6 : Int), spec_RobotsOk.l0 kq a1 a0 v6 = some r → AG prog 35 81 [.c (.p (.sc (.bool r)))] w0 (headStk (codeOf f35) 0) (mkFS (spec_RobotsOk.h0T a1 v6 a0) (spec_RobotsOk.h0H a1 v6 a0)) := by
    intro kq
    induction kq with
    | zero => intro v6 h; cases h
    | succ kq ih =>
      intro v6 h
      rw [spec_RobotsOk.l0] at h
      by_cases c19 : v6 < (a1.length : Int)
      ·replace h := ip c19 h
       obtain ⟨c20, h⟩ := ifN h
       obtain ⟨t7, g21, h⟩ := bindN h
       let C21 := mkCon (spec_l01In.ok ((rdD z51 a1 v6).f0) 0 99 t7 g21) spec_l01In.go
       by_cases c22 : t7 = true
       ·replace h := ip c22 h
        by_cases c23 : 0 < v6
        ·replace h := ip c23 h
         obtain ⟨c24, h⟩ := ifN h
         obtain ⟨c25, h⟩ := ifN h
         by_cases c26 : (rdD z51 a1 v6).f0 ≤ (rdD z51 a1 (w64 (v6 - 1))).f0
         ·replace h := ip c26 h
          cases h
          exact rt func35 [.b true, .call C21, .dec 29 false, .dec 32 true, .dec 44 true, .b true, .fin] (oT c19 (o1 c20 (o1 c19 (oc C21 (o1 (bnf c22) (oT c23 (o1 c24 (o1 c25 (oT c26 (oR on))))))))))
         ·replace h := iq c26 h
          obtain ⟨t8, g27, h⟩ := bindN h
          let C27 := mkCon (spec_FreeAt.ok kq a0 ((rdD z51 a1 v6).f1) t8 g27) spec_FreeAt.go
          by_cases c28 : t8 = true
          ·replace h := ip c28 h
           by_cases c29 : (rdD z51 a1 v6).f2 = (-1)
           ·replace h := ip c29 h
            obtain ⟨c30, h⟩ := ifN h
            obtain ⟨t9, g31, h⟩ := bindN h
            let C31 := mkCon (spec_HolderOf.ok kq ((a1.drop (0 : Int).toNat).take (v6.toNat - (0 : Int).toNat)) ((rdD z51 a1 v6).f1) t9 g31) spec_HolderOf.go
            by_cases c32 : 0 ≤ t9
            ·replace h := ip c32 h
             cases h
             exact rt func35 [.b true, .call C21, .dec 29 false, .dec 32 true, .dec 44 false, .call C27, .dec 51 false, .dec 55 false, .b false, .cst 67 (R 4 e51 z51 ((a1.drop (0 : Int).toNat).take (v6.toNat - (0 : Int).toNat))), .call C31, .dec 72 true, .b true, .fin] (oT c19 (o1 c20 (o1 c19 (oc C21 (o1 (bnf c22) (oT c23 (o1 c24 (o1 c25 (oF c26 (oc C27 (o1 (bnf c28) (o1 (bnf (decide_eq_true c29)) (o1 (rfl : false = false) (o1 (by decide : (0 : Int) ≤ 0) (o1 c20 (o1 c30 (o1 (VE.cut (z := 4) (e := e51) (d := z51) a1 (n := a1.length) (lo := 0) (hi := v6) rfl (by decide : (0 : Int) ≤ 0) c20 c30) (oc C31 (oT c32 (oR on))))))))))))))))))))
            ·replace h := iq c32 h
             obtain ⟨t10, g33, h⟩ := bindN h
             let C33 := mkCon (spec_HolderOf.ok kq ((a1.drop (0 : Int).toNat).take (v6.toNat - (0 : Int).toNat)) ((rdD z51 a1 v6).f2) t10 g33) spec_HolderOf.go
             by_cases c34 : 0 ≤ t10
             ·replace h := ip c34 h
              cases h
              exact rt func35 [.b true, .call C21, .dec 29 false, .dec 32 true, .dec 44 false, .call C27, .dec 51 false, .dec 55 false, .b false, .cst 67 (R 4 e51 z51 ((a1.drop (0 : Int).toNat).take (v6.toNat - (0 : Int).toNat))), .call C31, .dec 72 false, .cst 75 (R 4 e51 z51 ((a1.drop (0 : Int).toNat).take (v6.toNat - (0 : Int).toNat))), .call C33, .b true, .fin] (oT c19 (o1 c20 (o1 c19 (oc C21 (o1 (bnf c22) (oT c23 (o1 c24 (o1 c25 (oF c26 (oc C27 (o1 (bnf c28) (o1 (bnf (decide_eq_true c29)) (o1 (rfl : false = false) (o1 (by decide : (0 : Int) ≤ 0) (o1 c20 (o1 c30 (o1 (VE.cut (z := 4) (e := e51) (d := z51) a1 (n := a1.length) (lo := 0) (hi := v6) rfl (by decide : (0 : Int) ≤ 0) c20 c30) (oc C31 (oF c32 (o1 (by decide : (0 : Int) ≤ 0) (o1 c20 (o1 c30 (o1 (VE.cut (z := 4) (e := e51) (d := z51) a1 (n := a1.length) (lo := 0) (hi := v6) rfl (by decide : (0 : Int) ≤ 0) c20 c30) (oc C33 (oT c34 on)))))))))))))))))))))))))
             ·replace h := iq c34 h
              exact hd func35 [.b true, .call C21, .dec 29 false, .dec 32 true, .dec 44 false, .call C27, .dec 51 false, .dec 55 false, .b false, .cst 67 (R 4 e51 z51 ((a1.drop (0 : Int).toNat).take (v6.toNat - (0 : Int).toNat))), .call C31, .dec 72 false, .cst 75 (R 4 e51 z51 ((a1.drop (0 : Int).toNat).take (v6.toNat - (0 : Int).toNat))), .call C33, .b false, .fin] (oT c19 (o1 c20 (o1 c19 (oc C21 (o1 (bnf c22) (oT c23 (o1 c24 (o1 c25 (oF c26 (oc C27 (o1 (bnf c28) (o1 (bnf (decide_eq_true c29)) (o1 (rfl : false = false) (o1 (by decide : (0 : Int) ≤ 0) (o1 c20 (o1 c30 (o1 (VE.cut (z := 4) (e := e51) (d := z51) a1 (n := a1.length) (lo := 0) (hi := v6) rfl (by decide : (0 : Int) ≤ 0) c20 c30) (oc C31 (oF c32 (o1 (by decide : (0 : Int) ≤ 0) (o1 c20 (o1 c30 (o1 (VE.cut (z := 4) (e := e51) (d := z51) a1 (n := a1.length) (lo := 0) (hi := v6) rfl (by decide : (0 : Int) ≤ 0) c20 c30) (oc C33 (oF c34 on))))))))))))))))))))))))) (ih (w64 (v6 + 1)) h)
           ·replace h := iq c29 h
            obtain ⟨t11, g35, h⟩ := bindN h
            let C35 := mkCon (spec_Beside.ok kq a0 ((rdD z51 a1 v6).f1) ((rdD z51 a1 v6).f2) t11 g35) spec_Beside.go
            by_cases c36 : t11 = true
            ·replace h := ip c36 h
             obtain ⟨c37, h⟩ := ifN h
             obtain ⟨t12, g38, h⟩ := bindN h
             let C38 := mkCon (spec_HolderOf.ok kq ((a1.drop (0 : Int).toNat).take (v6.toNat - (0 : Int).toNat)) ((rdD z51 a1 v6).f1) t12 g38) spec_HolderOf.go
             by_cases c39 : 0 ≤ t12
             ·replace h := ip c39 h
              cases h
              exact rt func35 [.b true, .call C21, .dec 29 false, .dec 32 true, .dec 44 false, .call C27, .dec 51 false, .dec 55 true, .call C35, .b false, .cst 67 (R 4 e51 z51 ((a1.drop (0 : Int).toNat).take (v6.toNat - (0 : Int).toNat))), .call C38, .dec 72 true, .b true, .fin] (oT c19 (o1 c20 (o1 c19 (oc C21 (o1 (bnf c22) (oT c23 (o1 c24 (o1 c25 (oF c26 (oc C27 (o1 (bnf c28) (o1 (bnt (decide_eq_false c29)) (oc C35 (o1 (bnf c36) (o1 (by decide : (0 : Int) ≤ 0) (o1 c20 (o1 c37 (o1 (VE.cut (z := 4) (e := e51) (d := z51) a1 (n := a1.length) (lo := 0) (hi := v6) rfl (by decide : (0 : Int) ≤ 0) c20 c37) (oc C38 (oT c39 (oR on)))))))))))))))))))))
             ·replace h := iq c39 h
              obtain ⟨t13, g40, h⟩ := bindN h
              let C40 := mkCon (spec_HolderOf.ok kq ((a1.drop (0 : Int).toNat).take (v6.toNat - (0 : Int).toNat)) ((rdD z51 a1 v6).f2) t13 g40) spec_HolderOf.go
              by_cases c41 : 0 ≤ t13
              ·replace h := ip c41 h
               cases h
               exact rt func35 [.b true, .call C21, .dec 29 false, .dec 32 true, .dec 44 false, .call C27, .dec 51 false, .dec 55 true, .call C35, .b false, .cst 67 (R 4 e51 z51 ((a1.drop (0 : Int).toNat).take (v6.toNat - (0 : Int).toNat))), .call C38, .dec 72 false, .cst 75 (R 4 e51 z51 ((a1.drop (0 : Int).toNat).take (v6.toNat - (0 : Int).toNat))), .call C40, .b true, .fin] (oT c19 (o1 c20 (o1 c19 (oc C21 (o1 (bnf c22) (oT c23 (o1 c24 (o1 c25 (oF c26 (oc C27 (o1 (bnf c28) (o1 (bnt (decide_eq_false c29)) (oc C35 (o1 (bnf c36) (o1 (by decide : (0 : Int) ≤ 0) (o1 c20 (o1 c37 (o1 (VE.cut (z := 4) (e := e51) (d := z51) a1 (n := a1.length) (lo := 0) (hi := v6) rfl (by decide : (0 : Int) ≤ 0) c20 c37) (oc C38 (oF c39 (o1 (by decide : (0 : Int) ≤ 0) (o1 c20 (o1 c37 (o1 (VE.cut (z := 4) (e := e51) (d := z51) a1 (n := a1.length) (lo := 0) (hi := v6) rfl (by decide : (0 : Int) ≤ 0) c20 c37) (oc C40 (oT c41 on))))))))))))))))))))))))))
              ·replace h := iq c41 h
               exact hd func35 [.b true, .call C21, .dec 29 false, .dec 32 true, .dec 44 false, .call C27, .dec 51 false, .dec 55 true, .call C35, .b false, .cst 67 (R 4 e51 z51 ((a1.drop (0 : Int).toNat).take (v6.toNat - (0 : Int).toNat))), .call C38, .dec 72 false, .cst 75 (R 4 e51 z51 ((a1.drop (0 : Int).toNat).take (v6.toNat - (0 : Int).toNat))), .call C40, .b false, .fin] (oT c19 (o1 c20 (o1 c19 (oc C21 (o1 (bnf c22) (oT c23 (o1 c24 (o1 c25 (oF c26 (oc C27 (o1 (bnf c28) (o1 (bnt (decide_eq_false c29)) (oc C35 (o1 (bnf c36) (o1 (by decide : (0 : Int) ≤ 0) (o1 c20 (o1 c37 (o1 (VE.cut (z := 4) (e := e51) (d := z51) a1 (n := a1.length) (lo := 0) (hi := v6) rfl (by decide : (0 : Int) ≤ 0) c20 c37) (oc C38 (oF c39 (o1 (by decide : (0 : Int) ≤ 0) (o1 c20 (o1 c37 (o1 (VE.cut (z := 4) (e := e51) (d := z51) a1 (n := a1.length) (lo := 0) (hi := v6) rfl (by decide : (0 : Int) ≤ 0) c20 c37) (oc C40 (oF c41 on)))))))))))))))))))))))))) (ih (w64 (v6 + 1)) h)
            ·replace h := iq c36 h
             cases h
             exact rt func35 [.b true, .call C21, .dec 29 false, .dec 32 true, .dec 44 false, .call C27, .dec 51 false, .dec 55 true, .call C35, .b true, .fin] (oT c19 (o1 c20 (o1 c19 (oc C21 (o1 (bnf c22) (oT c23 (o1 c24 (o1 c25 (oF c26 (oc C27 (o1 (bnf c28) (o1 (bnt (decide_eq_false c29)) (oc C35 (oN c36 on))))))))))))))
          ·replace h := iq c28 h
           cases h
           exact rt func35 [.b true, .call C21, .dec 29 false, .dec 32 true, .dec 44 false, .call C27, .dec 51 true, .b true, .fin] (oT c19 (o1 c20 (o1 c19 (oc C21 (o1 (bnf c22) (oT c23 (o1 c24 (o1 c25 (oF c26 (oc C27 (oN c28 (oR on))))))))))))
        ·replace h := iq c23 h
         obtain ⟨t14, g42, h⟩ := bindN h
         let C42 := mkCon (spec_FreeAt.ok kq a0 ((rdD z51 a1 v6).f1) t14 g42) spec_FreeAt.go
         by_cases c43 : t14 = true
         ·replace h := ip c43 h
          by_cases c44 : (rdD z51 a1 v6).f2 = (-1)
          ·replace h := ip c44 h
           obtain ⟨c45, h⟩ := ifN h
           obtain ⟨t15, g46, h⟩ := bindN h
           let C46 := mkCon (spec_HolderOf.ok kq ((a1.drop (0 : Int).toNat).take (v6.toNat - (0 : Int).toNat)) ((rdD z51 a1 v6).f1) t15 g46) spec_HolderOf.go
           by_cases c47 : 0 ≤ t15
           ·replace h := ip c47 h
            cases h
            exact rt func35 [.b true, .call C21, .dec 29 false, .dec 32 false, .call C42, .dec 51 false, .dec 55 false, .b false, .cst 67 (R 4 e51 z51 ((a1.drop (0 : Int).toNat).take (v6.toNat - (0 : Int).toNat))), .call C46, .dec 72 true, .b true, .fin] (oT c19 (o1 c20 (o1 c19 (oc C21 (o1 (bnf c22) (oF c23 (oc C42 (o1 (bnf c43) (o1 (bnf (decide_eq_true c44)) (o1 (rfl : false = false) (o1 (by decide : (0 : Int) ≤ 0) (o1 c20 (o1 c45 (o1 (VE.cut (z := 4) (e := e51) (d := z51) a1 (n := a1.length) (lo := 0) (hi := v6) rfl (by decide : (0 : Int) ≤ 0) c20 c45) (oc C46 (oT c47 (oR on)))))))))))))))))
           ·replace h := iq c47 h
            obtain ⟨t16, g48, h⟩ := bindN h
            let C48 := mkCon (spec_HolderOf.ok kq ((a1.drop (0 : Int).toNat).take (v6.toNat - (0 : Int).toNat)) ((rdD z51 a1 v6).f2) t16 g48) spec_HolderOf.go
            by_cases c49 : 0 ≤ t16
            ·replace h := ip c49 h
             cases h
             exact rt func35 [.b true, .call C21, .dec 29 false, .dec 32 false, .call C42, .dec 51 false, .dec 55 false, .b false, .cst 67 (R 4 e51 z51 ((a1.drop (0 : Int).toNat).take (v6.toNat - (0 : Int).toNat))), .call C46, .dec 72 false, .cst 75 (R 4 e51 z51 ((a1.drop (0 : Int).toNat).take (v6.toNat - (0 : Int).toNat))), .call C48, .b true, .fin] (oT c19 (o1 c20 (o1 c19 (oc C21 (o1 (bnf c22) (oF c23 (oc C42 (o1 (bnf c43) (o1 (bnf (decide_eq_true c44)) (o1 (rfl : false = false) (o1 (by decide : (0 : Int) ≤ 0) (o1 c20 (o1 c45 (o1 (VE.cut (z := 4) (e := e51) (d := z51) a1 (n := a1.length) (lo := 0) (hi := v6) rfl (by decide : (0 : Int) ≤ 0) c20 c45) (oc C46 (oF c47 (o1 (by decide : (0 : Int) ≤ 0) (o1 c20 (o1 c45 (o1 (VE.cut (z := 4) (e := e51) (d := z51) a1 (n := a1.length) (lo := 0) (hi := v6) rfl (by decide : (0 : Int) ≤ 0) c20 c45) (oc C48 (oT c49 on))))))))))))))))))))))
            ·replace h := iq c49 h
             exact hd func35 [.b true, .call C21, .dec 29 false, .dec 32 false, .call C42, .dec 51 false, .dec 55 false, .b false, .cst 67 (R 4 e51 z51 ((a1.drop (0 : Int).toNat).take (v6.toNat - (0 : Int).toNat))), .call C46, .dec 72 false, .cst 75 (R 4 e51 z51 ((a1.drop (0 : Int).toNat).take (v6.toNat - (0 : Int).toNat))), .call C48, .b false, .fin] (oT c19 (o1 c20 (o1 c19 (oc C21 (o1 (bnf c22) (oF c23 (oc C42 (o1 (bnf c43) (o1 (bnf (decide_eq_true c44)) (o1 (rfl : false = false) (o1 (by decide : (0 : Int) ≤ 0) (o1 c20 (o1 c45 (o1 (VE.cut (z := 4) (e := e51) (d := z51) a1 (n := a1.length) (lo := 0) (hi := v6) rfl (by decide : (0 : Int) ≤ 0) c20 c45) (oc C46 (oF c47 (o1 (by decide : (0 : Int) ≤ 0) (o1 c20 (o1 c45 (o1 (VE.cut (z := 4) (e := e51) (d := z51) a1 (n := a1.length) (lo := 0) (hi := v6) rfl (by decide : (0 : Int) ≤ 0) c20 c45) (oc C48 (oF c49 on)))))))))))))))))))))) (ih (w64 (v6 + 1)) h)
          ·replace h := iq c44 h
           obtain ⟨t17, g50, h⟩ := bindN h
           let C50 := mkCon (spec_Beside.ok kq a0 ((rdD z51 a1 v6).f1) ((rdD z51 a1 v6).f2) t17 g50) spec_Beside.go
           by_cases c51 : t17 = true
           ·replace h := ip c51 h
            obtain ⟨c52, h⟩ := ifN h
            obtain ⟨t18, g53, h⟩ := bindN h
            let C53 := mkCon (spec_HolderOf.ok kq ((a1.drop (0 : Int).toNat).take (v6.toNat - (0 : Int).toNat)) ((rdD z51 a1 v6).f1) t18 g53) spec_HolderOf.go
            by_cases c54 : 0 ≤ t18
            ·replace h := ip c54 h
             cases h
             exact rt func35 [.b true, .call C21, .dec 29 false, .dec 32 false, .call C42, .dec 51 false, .dec 55 true, .call C50, .b false, .cst 67 (R 4 e51 z51 ((a1.drop (0 : Int).toNat).take (v6.toNat - (0 : Int).toNat))), .call C53, .dec 72 true, .b true, .fin] (oT c19 (o1 c20 (o1 c19 (oc C21 (o1 (bnf c22) (oF c23 (oc C42 (o1 (bnf c43) (o1 (bnt (decide_eq_false c44)) (oc C50 (o1 (bnf c51) (o1 (by decide : (0 : Int) ≤ 0) (o1 c20 (o1 c52 (o1 (VE.cut (z := 4) (e := e51) (d := z51) a1 (n := a1.length) (lo := 0) (hi := v6) rfl (by decide : (0 : Int) ≤ 0) c20 c52) (oc C53 (oT c54 (oR on))))))))))))))))))
            ·replace h := iq c54 h
             obtain ⟨t19, g55, h⟩ := bindN h
             let C55 := mkCon (spec_HolderOf.ok kq ((a1.drop (0 : Int).toNat).take (v6.toNat - (0 : Int).toNat)) ((rdD z51 a1 v6).f2) t19 g55) spec_HolderOf.go
             by_cases c56 : 0 ≤ t19
             ·replace h := ip c56 h
              cases h
              exact rt func35 [.b true, .call C21, .dec 29 false, .dec 32 false, .call C42, .dec 51 false, .dec 55 true, .call C50, .b false, .cst 67 (R 4 e51 z51 ((a1.drop (0 : Int).toNat).take (v6.toNat - (0 : Int).toNat))), .call C53, .dec 72 false, .cst 75 (R 4 e51 z51 ((a1.drop (0 : Int).toNat).take (v6.toNat - (0 : Int).toNat))), .call C55, .b true, .fin] (oT c19 (o1 c20 (o1 c19 (oc C21 (o1 (bnf c22) (oF c23 (oc C42 (o1 (bnf c43) (o1 (bnt (decide_eq_false c44)) (oc C50 (o1 (bnf c51) (o1 (by decide : (0 : Int) ≤ 0) (o1 c20 (o1 c52 (o1 (VE.cut (z := 4) (e := e51) (d := z51) a1 (n := a1.length) (lo := 0) (hi := v6) rfl (by decide : (0 : Int) ≤ 0) c20 c52) (oc C53 (oF c54 (o1 (by decide : (0 : Int) ≤ 0) (o1 c20 (o1 c52 (o1 (VE.cut (z := 4) (e := e51) (d := z51) a1 (n := a1.length) (lo := 0) (hi := v6) rfl (by decide : (0 : Int) ≤ 0) c20 c52) (oc C55 (oT c56 on)))))))))))))))))))))))
             ·replace h := iq c56 h
              exact hd func35 [.b true, .call C21, .dec 29 false, .dec 32 false, .call C42, .dec 51 false, .dec 55 true, .call C50, .b false, .cst 67 (R 4 e51 z51 ((a1.drop (0 : Int).toNat).take (v6.toNat - (0 : Int).toNat))), .call C53, .dec 72 false, .cst 75 (R 4 e51 z51 ((a1.drop (0 : Int).toNat).take (v6.toNat - (0 : Int).toNat))), .call C55, .b false, .fin] (oT c19 (o1 c20 (o1 c19 (oc C21 (o1 (bnf c22) (oF c23 (oc C42 (o1 (bnf c43) (o1 (bnt (decide_eq_false c44)) (oc C50 (o1 (bnf c51) (o1 (by decide : (0 : Int) ≤ 0) (o1 c20 (o1 c52 (o1 (VE.cut (z := 4) (e := e51) (d := z51) a1 (n := a1.length) (lo := 0) (hi := v6) rfl (by decide : (0 : Int) ≤ 0) c20 c52) (oc C53 (oF c54 (o1 (by decide : (0 : Int) ≤ 0) (o1 c20 (o1 c52 (o1 (VE.cut (z := 4) (e := e51) (d := z51) a1 (n := a1.length) (lo := 0) (hi := v6) rfl (by decide : (0 : Int) ≤ 0) c20 c52) (oc C55 (oF c56 on))))))))))))))))))))))) (ih (w64 (v6 + 1)) h)
           ·replace h := iq c51 h
            cases h
            exact rt func35 [.b true, .call C21, .dec 29 false, .dec 32 false, .call C42, .dec 51 false, .dec 55 true, .call C50, .b true, .fin] (oT c19 (o1 c20 (o1 c19 (oc C21 (o1 (bnf c22) (oF c23 (oc C42 (o1 (bnf c43) (o1 (bnt (decide_eq_false c44)) (oc C50 (oN c51 on)))))))))))
         ·replace h := iq c43 h
          cases h
          exact rt func35 [.b true, .call C21, .dec 29 false, .dec 32 false, .call C42, .dec 51 true, .b true, .fin] (oT c19 (o1 c20 (o1 c19 (oc C21 (o1 (bnf c22) (oF c23 (oc C42 (oN c43 (oR on)))))))))
       ·replace h := iq c22 h
        cases h
        exact rt func35 [.b true, .call C21, .dec 29 true, .b true, .fin] (oT c19 (o1 c20 (o1 c19 (oc C21 (oN c22 (oR on))))))
      ·replace h := iq c19 h
       cases h
       exact rt func35 [.b false, .fin, .fin] (oF c19 on)
   exact hd func35 [.call C1, .dec 10 false, .b false, .fin] (oc C1 (o1 (bnf c2) (oF c3 on))) (H0 k 0 h)
 ·replace h := iq c2 h
  cases h
  exact rt func35 [.call C1, .dec 10 true, .b true, .fin] (oc C1 (oN c2 (oR on)))
def spec_WindowOk.h0T (v4 : Int) (a0 : S29) : List (Nat × AV) := [(1, .ptr 64 0), (3, .t (.c (.p true (iI v4))))]
def spec_WindowOk.h0H (v4 : Int) (a0 : S29) : List (Nat × Content) := [(64, .box 29 [.p false (iI a0.f0), .p false (iI a0.f1), .p false (R 1 (eI .i64) 0 a0.f2)])]
def spec_WindowOk.l0 : Nat → S29 → Int → Option Bool
 | 0, _, _ => none
 | kq + 1, a0, v4 => if v4 < (a0.f2.length : Int) then (if 0 ≤ v4 then ((spec_l01In.f (rdD 0 a0.f2 v4) 0 a0.f1).bind fun t5 => if t5 = true then (spec_WindowOk.l0 kq a0 (w64 (v4 + 1))) else (some false)) else none) else (some true)
def spec_WindowOk.f (k : Nat) (a0 : S29) : Option Bool := (spec_l01In.f a0.f0 1 8).bind fun t1 => if t1 = true then ((spec_l01In.f a0.f1 1 100).bind fun t2 => if t2 = true then (if (a0.f2.length : Int) = (w64 (a0.f0 * 6)) then (spec_WindowOk.l0 k a0 0) else (some false)) else (some false)) else (some false)
theorem spec_WindowOk.go : Callable prog 36 := ⟨_, func36, by kernel_rfl, rfl⟩
theorem spec_WindowOk.ok (k : Nat) (a0 : S29) (r : Bool) (h : spec_WindowOk.f k a0 = some r) : VCalls prog 36 [.agg (e29 a0)] [.c (.p (.sc (.bool r)))] := by
 unfold spec_WindowOk.f at h
 refine VCalls.of (fn := f36) (N := 39) func36 rfl rfl (fun w0 => ?_)
 obtain ⟨t1, g1, h⟩ := bindN h
 let C1 := mkCon (spec_l01In.ok a0.f0 1 8 t1 g1) spec_l01In.go
 by_cases c2 : t1 = true
 ·replace h := ip c2 h
  obtain ⟨t2, g3, h⟩ := bindN h
  let C3 := mkCon (spec_l01In.ok a0.f1 1 100 t2 g3) spec_l01In.go
  by_cases c4 : t2 = true
  ·replace h := ip c4 h
   by_cases c5 : (a0.f2.length : Int) = (w64 (a0.f0 * 6))
   ·replace h := ip c5 h
    have H0 : ∀ (kq : Nat) (v4 : Int), spec_WindowOk.l0 kq a0 v4 = some r → AG prog 36 39 [.c (.p (.sc (.bool r)))] w0 (headStk (codeOf f36) 0) (mkFS (spec_WindowOk.h0T v4 a0) (spec_WindowOk.h0H v4 a0)) := by
     intro kq
     induction kq with
     | zero => intro v4 h; cases h
     | succ kq ih =>
       intro v4 h
       rw [spec_WindowOk.l0] at h
       by_cases c9 : v4 < (a0.f2.length : Int)
       ·replace h := ip c9 h
        obtain ⟨c10, h⟩ := ifN h
        obtain ⟨t5, g11, h⟩ := bindN h
        let C11 := mkCon (spec_l01In.ok (rdD 0 a0.f2 v4) 0 a0.f1 t5 g11) spec_l01In.go
        by_cases c12 : t5 = true
        ·replace h := ip c12 h
         exact hd func36 [.b true, .call C11, .b false, .fin] (oT c9 (o1 c10 (o1 c9 (oc C11 (o1 (bnf c12) on))))) (ih (w64 (v4 + 1)) h)
        ·replace h := iq c12 h
         cases h
         exact rt func36 [.b true, .call C11, .b true, .fin] (oT c9 (o1 c10 (o1 c9 (oc C11 (oN c12 on)))))
       ·replace h := iq c9 h
        cases h
        exact rt func36 [.b false, .fin, .fin] (oF c9 on)
    exact hd func36 [.call C1, .dec 8 false, .call C3, .dec 14 false, .b false, .fin] (oc C1 (o1 (bnf c2) (oc C3 (o1 (bnf c4) (o1 (bnf (decide_eq_true c5)) on))))) (H0 k 0 h)
   ·replace h := iq c5 h
    cases h
    exact rt func36 [.call C1, .dec 8 false, .call C3, .dec 14 false, .b true, .fin] (oc C1 (o1 (bnf c2) (oc C3 (o1 (bnf c4) (o1 (bnt (decide_eq_false c5)) on)))))
  ·replace h := iq c4 h
   cases h
   exact rt func36 [.call C1, .dec 8 false, .call C3, .dec 14 true, .b true, .fin] (oc C1 (o1 (bnf c2) (oc C3 (oN c4 (oR on)))))
 ·replace h := iq c2 h
  cases h
  exact rt func36 [.call C1, .dec 8 true, .b true, .fin] (oc C1 (oN c2 (oR on)))
def spec_RobotAt.h0T (a0 : List S51) (a1 : Int) (v1 : Int) : List (Nat × AV) := [(0, .t (.c (.p false (R 4 e51 z51 a0)))), (1, .t (.c (.p false (iI a1)))), (5, .t (.c (.p true (iI v1))))]
def spec_RobotAt.h0H (a0 : List S51) (a1 : Int) (v1 : Int) : List (Nat × Content) := []
def spec_RobotAt.l0 : Nat → List S51 → Int → Int → Option Int
 | 0, _, _, _ => none
 | kq + 1, a0, a1, v1 => if v1 < (a0.length : Int) then (if 0 ≤ v1 then (if (rdD z51 a0 v1).f0 = a1 then (some v1) else (spec_RobotAt.l0 kq a0 a1 (w64 (v1 + 1)))) else none) else (some (-1))
def spec_RobotAt.f (k : Nat) (a0 : List S51) (a1 : Int) : Option Int := spec_RobotAt.l0 k a0 a1 0
theorem spec_RobotAt.go : Callable prog 136 := ⟨_, func136, by kernel_rfl, rfl⟩
theorem spec_RobotAt.ok (k : Nat) (a0 : List S51) (a1 : Int) (r : Int) (h : spec_RobotAt.f k a0 a1 = some r) : VCalls prog 136 [.c (R 4 e51 z51 a0), .c (iI a1)] [.c (.p (iI r))] := by
 unfold spec_RobotAt.f at h
 refine VCalls.of (fn := f136) (N := 20) func136 rfl rfl (fun w0 => ?_)
 have H0 : ∀ (kq : Nat) (v1 : Int), spec_RobotAt.l0 kq a0 a1 v1 = some r → AG prog 136 20 [.c (.p (iI r))] w0 (headStk (codeOf f136) 0) (mkFS (spec_RobotAt.h0T a0 a1 v1) (spec_RobotAt.h0H a0 a1 v1)) := by
  intro kq
  induction kq with
  | zero => intro v1 h; cases h
  | succ kq ih =>
    intro v1 h
    rw [spec_RobotAt.l0] at h
    by_cases c3 : v1 < (a0.length : Int)
    ·replace h := ip c3 h
     obtain ⟨c4, h⟩ := ifN h
     by_cases c5 : (rdD z51 a0 v1).f0 = a1
     ·replace h := ip c5 h
      cases h
      exact rt func136 [.b true, .b true, .fin] (oT c3 (o1 c4 (o1 c3 (oT c5 on))))
     ·replace h := iq c5 h
      exact hd func136 [.b true, .b false, .fin] (oT c3 (o1 c4 (o1 c3 (oF c5 on)))) (ih (w64 (v1 + 1)) h)
    ·replace h := iq c3 h
     cases h
     exact rt func136 [.b false, .fin, .fin] (oF c3 on)
 exact hd func136 [.fin] on (H0 k 0 h)
def spec_LayerOf.h0T (v2 : Int) (v3 : Int) (a0 : S35) : List (Nat × AV) := [(1, .ptr 64 0), (3, .t (.c (.p true (iI v2)))), (4, .t (.c (.p true (iI v3))))]
def spec_LayerOf.h0H (v2 : Int) (v3 : Int) (a0 : S35) : List (Nat × Content) := [(64, .box 35 [.p false (iI a0.f0.f0.f0), .p false (iI a0.f0.f0.f1), .p false (.sc (.string a0.f0.f0.f2)), .p false (iI a0.f0.f1), .p false (iI a0.f0.f2), .p false (iI a0.f0.f3), .p false (iI a0.f0.f4), .p false (R 4 e51 z51 a0.f1), .p false (iI a0.f2.f0), .p false (iI a0.f2.f1), .p false (R 1 (eI .i64) 0 a0.f2.f2), .p false (iI a0.f3), .p false (.sc (.bool a0.f4)), .p false (iI a0.f5.f0), .p false (iI a0.f5.f1), .p false (R 1 e53 z53 a0.f5.f2), .p false (R 3 e55 z55 a0.f6), .p false (R 1 (eI .i64) 0 a0.f7)])]
def spec_LayerOf.l0 : Nat → S35 → Int → Int → Option Int
 | 0, _, _, _ => none
 | kq + 1, a0, v2, v3 => if v3 < (a0.f6.length : Int) then (if v3 = 0 then (if 0 ≤ v3 then (spec_LayerOf.l0 kq a0 ((rdD z55 a0.f6 v3).f1) (w64 (v3 + 1))) else none) else (if 0 ≤ v3 then (if (rdD z55 a0.f6 v3).f1 < v2 then (spec_LayerOf.l0 kq a0 ((rdD z55 a0.f6 v3).f1) (w64 (v3 + 1))) else (spec_LayerOf.l0 kq a0 v2 (w64 (v3 + 1)))) else none)) else (some v2)
def spec_LayerOf.f (k : Nat) (a0 : S35) : Option Int := spec_LayerOf.l0 k a0 (-1) 0
theorem spec_LayerOf.go : Callable prog 75 := ⟨_, func75, by kernel_rfl, rfl⟩
theorem spec_LayerOf.ok (k : Nat) (a0 : S35) (r : Int) (h : spec_LayerOf.f k a0 = some r) : VCalls prog 75 [.agg (e35 a0)] [.c (.p (iI r))] := by
 unfold spec_LayerOf.f at h
 refine VCalls.of (fn := f75) (N := 31) func75 rfl rfl (fun w0 => ?_)
 have H0 : ∀ (kq : Nat) (v2 : Int) (v3 : Int), spec_LayerOf.l0 kq a0 v2 v3 = some r → AG prog 75 31 [.c (.p (iI r))] w0 (headStk (codeOf f75) 0) (mkFS (spec_LayerOf.h0T v2 v3 a0) (spec_LayerOf.h0H v2 v3 a0)) := by
  intro kq
  induction kq with
  | zero => intro v2 v3 h; cases h
  | succ kq ih =>
    intro v2 v3 h
    rw [spec_LayerOf.l0] at h
    by_cases c5 : v3 < (a0.f6.length : Int)
    ·replace h := ip c5 h
     by_cases c6 : v3 = 0
     ·replace h := ip c6 h
      obtain ⟨c7, h⟩ := ifN h
      exact hd func75 [.b true, .dec 14 true, .b true, .fin] (oT c5 (oT c6 (oR (o1 c7 (o1 c5 on))))) (ih ((rdD z55 a0.f6 v3).f1) (w64 (v3 + 1)) h)
     ·replace h := iq c6 h
      obtain ⟨c8, h⟩ := ifN h
      by_cases c9 : (rdD z55 a0.f6 v3).f1 < v2
      ·replace h := ip c9 h
       exact hd func75 [.b true, .dec 14 false, .b true, .fin] (oT c5 (oF c6 (o1 c8 (o1 c5 (oT c9 (o1 c8 (o1 c5 on))))))) (ih ((rdD z55 a0.f6 v3).f1) (w64 (v3 + 1)) h)
      ·replace h := iq c9 h
       exact hd func75 [.b true, .dec 14 false, .b false, .fin] (oT c5 (oF c6 (o1 c8 (o1 c5 (oF c9 on))))) (ih v2 (w64 (v3 + 1)) h)
    ·replace h := iq c5 h
     cases h
     exact rt func75 [.b false, .fin, .fin] (oF c5 on)
 exact hd func75 [.fin] on (H0 k (-1) 0 h)
def spec_l21Job.h0T (a1 : Int) (a0 : S35) (t1 : Int) (v4 : Int) : List (Nat × AV) := [(1, .t (.c (.p false (iI a1)))), (2, .ptr 128 0), (5, .ptr 320 0), (6, .t (.c (.p false (R 1 (eI .i64) 0 ((rdD z53 a0.f5.f2 a1).f0))))), (7, .t (.c (.p true (iI t1)))), (8, .t (.c (.p true (iI v4))))]
def spec_l21Job.h0H (a1 : Int) (a0 : S35) (t1 : Int) (v4 : Int) : List (Nat × Content) := [(128, .box 35 [.p false (iI a0.f0.f0.f0), .p false (iI a0.f0.f0.f1), .p false (.sc (.string a0.f0.f0.f2)), .p false (iI a0.f0.f1), .p false (iI a0.f0.f2), .p false (iI a0.f0.f3), .p false (iI a0.f0.f4), .p false (R 4 e51 z51 a0.f1), .p false (iI a0.f2.f0), .p false (iI a0.f2.f1), .p false (R 1 (eI .i64) 0 a0.f2.f2), .p false (iI a0.f3), .p false (.sc (.bool a0.f4)), .p false (iI a0.f5.f0), .p false (iI a0.f5.f1), .p false (R 1 e53 z53 a0.f5.f2), .p false (R 3 e55 z55 a0.f6), .p false (R 1 (eI .i64) 0 a0.f7)]), (320, .box 55 [.p false (.sc (.int .i64 ((rdD z55 a0.f6 a1).f0))), .p false (.sc (.int .i64 ((rdD z55 a0.f6 a1).f1))), .p false (.sc (.bool ((rdD z55 a0.f6 a1).f2)))])]
def spec_l21Job.l0 : Nat → Int → S35 → Int → Int → Option Bool
 | 0, _, _, _, _ => none
 | kq + 1, a1, a0, t1, v4 => if v4 < a1 then (if 0 ≤ v4 then (if v4 < (a0.f6.length : Int) then (if (rdD z55 a0.f6 v4).f0 = (rdD z55 a0.f6 a1).f0 then (some false) else (spec_l21Job.l0 kq a1 a0 t1 (w64 (v4 + 1)))) else none) else none) else (if 0 ≤ (rdD z55 a0.f6 a1).f1 then (if (rdD z55 a0.f6 a1).f1 < (((rdD z53 a0.f5.f2 a1).f0).length : Int) then (if (rdD z51 a0.f1 t1).f1 = (rdD 0 ((rdD z53 a0.f5.f2 a1).f0) ((rdD z55 a0.f6 a1).f1)) then (if (rdD z55 a0.f6 a1).f2 = true then (if (rdD z55 a0.f6 a1).f1 < a0.f5.f0 then (if 0 ≤ (w64 ((rdD z55 a0.f6 a1).f1 + 1)) then (if (w64 ((rdD z55 a0.f6 a1).f1 + 1)) < (((rdD z53 a0.f5.f2 a1).f0).length : Int) then (some (decide ((rdD z51 a0.f1 t1).f2 = (rdD 0 ((rdD z53 a0.f5.f2 a1).f0) (w64 ((rdD z55 a0.f6 a1).f1 + 1)))))) else none) else none) else (some false)) else (some (decide ((rdD z51 a0.f1 t1).f2 = (-1))))) else (some false)) else none) else none)
def spec_l21Job.f (k : Nat) (a0 : S35) (a1 : Int) : Option Bool := if 0 ≤ a1 then (if a1 < (a0.f6.length : Int) then (if a1 < (a0.f5.f2.length : Int) then ((spec_RobotAt.f k a0.f1 ((rdD z55 a0.f6 a1).f0)).bind fun t1 => if (w64 ((((rdD z53 a0.f5.f2 a1).f0).length : Int) - 1)) = a0.f5.f0 then (if t1 < 0 then (some false) else (if 0 ≤ t1 then (if t1 < (a0.f1.length : Int) then (if (rdD z51 a0.f1 t1).f3 = true then (some false) else ((spec_l01In.f ((rdD z55 a0.f6 a1).f1) 0 a0.f5.f0).bind fun t2 => if t2 = true then ((spec_LayerOf.f k a0).bind fun t3 => if (w64 (t3 + 1)) < (rdD z55 a0.f6 a1).f1 then (some false) else (spec_l21Job.l0 k a1 a0 t1 0)) else (some false))) else none) else none)) else (some false)) else none) else none) else none
theorem spec_l21Job.go : Callable prog 116 := ⟨_, func116, by kernel_rfl, rfl⟩
theorem spec_l21Job.ok (k : Nat) (a0 : S35) (a1 : Int) (r : Bool) (h : spec_l21Job.f k a0 a1 = some r) : VCalls prog 116 [.agg (e35 a0), .c (iI a1)] [.c (.p (.sc (.bool r)))] := by
 unfold spec_l21Job.f at h
 refine VCalls.of (fn := f116) (N := 118) func116 rfl rfl (fun w0 => ?_)
 obtain ⟨c1, h⟩ := ifN h
 obtain ⟨c2, h⟩ := ifN h
 obtain ⟨c3, h⟩ := ifN h
 obtain ⟨t1, g4, h⟩ := bindN h
 let C4 := mkCon (spec_RobotAt.ok k a0.f1 ((rdD z55 a0.f6 a1).f0) t1 g4) spec_RobotAt.go
 by_cases c5 : (w64 ((((rdD z53 a0.f5.f2 a1).f0).length : Int) - 1)) = a0.f5.f0
 ·replace h := ip c5 h
  by_cases c6 : t1 < 0
  ·replace h := ip c6 h
   cases h
   exact rt func116 [.call C4, .dec 33 false, .dec 37 true, .b true, .fin] (o1 c1 (o1 c2 (o1 c1 (o1 c3 (oc C4 (o1 (bnf (decide_eq_true c5)) (oT c6 (oR on))))))))
  ·replace h := iq c6 h
   obtain ⟨c7, h⟩ := ifN h
   obtain ⟨c8, h⟩ := ifN h
   by_cases c9 : (rdD z51 a0.f1 t1).f3 = true
   ·replace h := ip c9 h
    cases h
    exact rt func116 [.call C4, .dec 33 false, .dec 37 false, .dec 45 true, .b true, .fin] (o1 c1 (o1 c2 (o1 c1 (o1 c3 (oc C4 (o1 (bnf (decide_eq_true c5)) (oF c6 (o1 c7 (o1 c8 (o1 c9 (oR on)))))))))))
   ·replace h := iq c9 h
    obtain ⟨t2, g10, h⟩ := bindN h
    let C10 := mkCon (spec_l01In.ok ((rdD z55 a0.f6 a1).f1) 0 a0.f5.f0 t2 g10) spec_l01In.go
    by_cases c11 : t2 = true
    ·replace h := ip c11 h
     obtain ⟨t3, g12, h⟩ := bindN h
     let C12 := mkCon (spec_LayerOf.ok k a0 t3 g12) spec_LayerOf.go
     by_cases c13 : (w64 (t3 + 1)) < (rdD z55 a0.f6 a1).f1
     ·replace h := ip c13 h
      cases h
      exact rt func116 [.call C4, .dec 33 false, .dec 37 false, .dec 45 false, .call C10, .dec 54 false, .call C12, .b true, .fin] (o1 c1 (o1 c2 (o1 c1 (o1 c3 (oc C4 (o1 (bnf (decide_eq_true c5)) (oF c6 (o1 c7 (o1 c8 (o1 (eqf c9) (oc C10 (o1 (bnf c11) (oc C12 (oT c13 on))))))))))))))
     ·replace h := iq c13 h
      have H0 : ∀ (kq : Nat) (v4 : Int), spec_l21Job.l0 kq a1 a0 t1 v4 = some r → AG prog 116 118 [.c (.p (.sc (.bool r)))] w0 (headStk (codeOf f116) 0) (mkFS (spec_l21Job.h0T a1 a0 t1 v4) (spec_l21Job.h0H a1 a0 t1 v4)) := by
       intro kq
       induction kq with
       | zero => intro v4 h; cases h
       | succ kq ih =>
         intro v4 h
         rw [spec_l21Job.l0] at h
         by_cases c17 : v4 < a1
         ·replace h := ip c17 h
          obtain ⟨c18, h⟩ := ifN h
          obtain ⟨c19, h⟩ := ifN h
          by_cases c20 : (rdD z55 a0.f6 v4).f0 = (rdD z55 a0.f6 a1).f0
          ·replace h := ip c20 h
           cases h
           exact rt func116 [.b true, .b true, .fin] (oT c17 (o1 c18 (o1 c19 (oT c20 on))))
          ·replace h := iq c20 h
           exact hd func116 [.b true, .b false, .fin] (oT c17 (o1 c18 (o1 c19 (oF c20 on)))) (ih (w64 (v4 + 1)) h)
         ·replace h := iq c17 h
          obtain ⟨c21, h⟩ := ifN h
          obtain ⟨c22, h⟩ := ifN h
          by_cases c23 : (rdD z51 a0.f1 t1).f1 = (rdD 0 ((rdD z53 a0.f5.f2 a1).f0) ((rdD z55 a0.f6 a1).f1))
          ·replace h := ip c23 h
           by_cases c24 : (rdD z55 a0.f6 a1).f2 = true
           ·replace h := ip c24 h
            by_cases c25 : (rdD z55 a0.f6 a1).f1 < a0.f5.f0
            ·replace h := ip c25 h
             obtain ⟨c26, h⟩ := ifN h
             obtain ⟨c27, h⟩ := ifN h
             cases h
             exact rt func116 [.b false, .fin, .b false, .b true, .dec 96 true, .fin] (oF c17 (o1 c7 (o1 c8 (o1 c21 (o1 c22 (o1 (bnf (decide_eq_true c23)) (o1 c24 (oT c25 (o1 c7 (o1 c8 (o1 c26 (o1 c27 on))))))))))))
            ·replace h := iq c25 h
             cases h
             exact rt func116 [.b false, .fin, .b false, .b true, .dec 96 false, .fin] (oF c17 (o1 c7 (o1 c8 (o1 c21 (o1 c22 (o1 (bnf (decide_eq_true c23)) (o1 c24 (oF c25 on))))))))
           ·replace h := iq c24 h
            cases h
            exact rt func116 [.b false, .fin, .b false, .b false, .fin] (oF c17 (o1 c7 (o1 c8 (o1 c21 (o1 c22 (o1 (bnf (decide_eq_true c23)) (o1 (eqf c24) (o1 c7 (o1 c8 on)))))))))
          ·replace h := iq c23 h
           cases h
           exact rt func116 [.b false, .fin, .b true, .fin] (oF c17 (o1 c7 (o1 c8 (o1 c21 (o1 c22 (o1 (bnt (decide_eq_false c23)) on))))))
      exact hd func116 [.call C4, .dec 33 false, .dec 37 false, .dec 45 false, .call C10, .dec 54 false, .call C12, .b false, .fin] (o1 c1 (o1 c2 (o1 c1 (o1 c3 (oc C4 (o1 (bnf (decide_eq_true c5)) (oF c6 (o1 c7 (o1 c8 (o1 (eqf c9) (oc C10 (o1 (bnf c11) (oc C12 (oF c13 on)))))))))))))) (H0 k 0 h)
    ·replace h := iq c11 h
     cases h
     exact rt func116 [.call C4, .dec 33 false, .dec 37 false, .dec 45 false, .call C10, .dec 54 true, .b true, .fin] (o1 c1 (o1 c2 (o1 c1 (o1 c3 (oc C4 (o1 (bnf (decide_eq_true c5)) (oF c6 (o1 c7 (o1 c8 (o1 (eqf c9) (oc C10 (oN c11 (oR on)))))))))))))
 ·replace h := iq c5 h
  cases h
  exact rt func116 [.call C4, .dec 33 true, .b true, .fin] (o1 c1 (o1 c2 (o1 c1 (o1 c3 (oc C4 (o1 (bnt (decide_eq_false c5)) (oR on)))))))
def spec_l21Jobs.h0T (v3 : Int) (a0 : S35) : List (Nat × AV) := [(1, .ptr 64 0), (3, .t (.c (.p true (iI v3))))]
def spec_l21Jobs.h0H (v3 : Int) (a0 : S35) : List (Nat × Content) := [(64, .box 35 [.p false (iI a0.f0.f0.f0), .p false (iI a0.f0.f0.f1), .p false (.sc (.string a0.f0.f0.f2)), .p false (iI a0.f0.f1), .p false (iI a0.f0.f2), .p false (iI a0.f0.f3), .p false (iI a0.f0.f4), .p false (R 4 e51 z51 a0.f1), .p false (iI a0.f2.f0), .p false (iI a0.f2.f1), .p false (R 1 (eI .i64) 0 a0.f2.f2), .p false (iI a0.f3), .p false (.sc (.bool a0.f4)), .p false (iI a0.f5.f0), .p false (iI a0.f5.f1), .p false (R 1 e53 z53 a0.f5.f2), .p false (R 3 e55 z55 a0.f6), .p false (R 1 (eI .i64) 0 a0.f7)])]
def spec_l21Jobs.l0 : Nat → S35 → Int → Option Bool
 | 0, _, _ => none
 | kq + 1, a0, v3 => if v3 < (a0.f6.length : Int) then ((spec_l21Job.f kq a0 v3).bind fun t4 => if t4 = true then (spec_l21Jobs.l0 kq a0 (w64 (v3 + 1))) else (some false)) else (some true)
def spec_l21Jobs.f (k : Nat) (a0 : S35) : Option Bool := if 20 < a0.f5.f0 then (some false) else ((spec_l01In.f (a0.f6.length : Int) 1 10).bind fun t1 => if t1 = true then (if (a0.f6.length : Int) = (a0.f5.f2.length : Int) then (spec_l21Jobs.l0 k a0 0) else (some false)) else (some false))
theorem spec_l21Jobs.go : Callable prog 74 := ⟨_, func74, by kernel_rfl, rfl⟩
theorem spec_l21Jobs.ok (k : Nat) (a0 : S35) (r : Bool) (h : spec_l21Jobs.f k a0 = some r) : VCalls prog 74 [.agg (e35 a0)] [.c (.p (.sc (.bool r)))] := by
 unfold spec_l21Jobs.f at h
 refine VCalls.of (fn := f74) (N := 36) func74 rfl rfl (fun w0 => ?_)
 by_cases c1 : 20 < a0.f5.f0
 ·replace h := ip c1 h
  cases h
  exact rt func74 [.dec 8 true, .b true, .fin] (oT c1 (oR on))
 ·replace h := iq c1 h
  obtain ⟨t1, g2, h⟩ := bindN h
  let C2 := mkCon (spec_l01In.ok (a0.f6.length : Int) 1 10 t1 g2) spec_l01In.go
  by_cases c3 : t1 = true
  ·replace h := ip c3 h
   by_cases c4 : (a0.f6.length : Int) = (a0.f5.f2.length : Int)
   ·replace h := ip c4 h
    have H0 : ∀ (kq : Nat) (v3 : Int), spec_l21Jobs.l0 kq a0 v3 = some r → AG prog 74 36 [.c (.p (.sc (.bool r)))] w0 (headStk (codeOf f74) 0) (mkFS (spec_l21Jobs.h0T v3 a0) (spec_l21Jobs.h0H v3 a0)) := by
     intro kq
     induction kq with
     | zero => intro v3 h; cases h
     | succ kq ih =>
       intro v3 h
       rw [spec_l21Jobs.l0] at h
       by_cases c8 : v3 < (a0.f6.length : Int)
       ·replace h := ip c8 h
        obtain ⟨t4, g9, h⟩ := bindN h
        let C9 := mkCon (spec_l21Job.ok kq a0 v3 t4 g9) spec_l21Job.go
        by_cases c10 : t4 = true
        ·replace h := ip c10 h
         exact hd func74 [.b true, .call C9, .b false, .fin] (oT c8 (oc C9 (o1 (bnf c10) on))) (ih (w64 (v3 + 1)) h)
        ·replace h := iq c10 h
         cases h
         exact rt func74 [.b true, .call C9, .b true, .fin] (oT c8 (oc C9 (oN c10 on)))
       ·replace h := iq c8 h
        cases h
        exact rt func74 [.b false, .fin, .fin] (oF c8 on)
    exact hd func74 [.dec 8 false, .call C2, .dec 15 false, .b false, .fin] (oF c1 (oc C2 (o1 (bnf c3) (o1 (bnf (decide_eq_true c4)) on)))) (H0 k 0 h)
   ·replace h := iq c4 h
    cases h
    exact rt func74 [.dec 8 false, .call C2, .dec 15 false, .b true, .fin] (oF c1 (oc C2 (o1 (bnf c3) (o1 (bnt (decide_eq_false c4)) on))))
  ·replace h := iq c3 h
   cases h
   exact rt func74 [.dec 8 false, .call C2, .dec 15 true, .b true, .fin] (oF c1 (oc C2 (oN c3 (oR on))))
def spec_JobsOk.f (k : Nat) (a0 : S35) : Option Bool := if a0.f4 = true then ((spec_l21Jobs.f k a0).bind fun t1 => if t1 = true then ((spec_LayerOf.f k a0).bind fun t2 => some (decide (t2 < a0.f5.f0))) else (some false)) else (if a0.f5.f0 = 0 then (if a0.f5.f1 = 0 then (if (a0.f5.f2.length : Int) = 0 then (some (decide ((a0.f6.length : Int) = 0))) else (some false)) else (some false)) else (some false))
theorem spec_JobsOk.go : Callable prog 37 := ⟨_, func37, by kernel_rfl, rfl⟩
theorem spec_JobsOk.ok (k : Nat) (a0 : S35) (r : Bool) (h : spec_JobsOk.f k a0 = some r) : VCalls prog 37 [.agg (e35 a0)] [.c (.p (.sc (.bool r)))] := by
 unfold spec_JobsOk.f at h
 refine VCalls.of (fn := f37) (N := 39) func37 rfl rfl (fun w0 => ?_)
 by_cases c1 : a0.f4 = true
 ·replace h := ip c1 h
  obtain ⟨t1, g2, h⟩ := bindN h
  let C2 := mkCon (spec_l21Jobs.ok k a0 t1 g2) spec_l21Jobs.go
  by_cases c3 : t1 = true
  ·replace h := ip c3 h
   obtain ⟨t2, g4, h⟩ := bindN h
   let C4 := mkCon (spec_LayerOf.ok k a0 t2 g4) spec_LayerOf.go
   cases h
   exact rt func37 [.b false, .call C2, .dec 31 true, .call C4, .fin] (o1 (bnf c1) (oc C2 (o1 c3 (oc C4 on))))
  ·replace h := iq c3 h
   cases h
   exact rt func37 [.b false, .call C2, .dec 31 false, .fin] (o1 (bnf c1) (oc C2 (o1 (eqf c3) on)))
 ·replace h := iq c1 h
  by_cases c5 : a0.f5.f0 = 0
  ·replace h := ip c5 h
   by_cases c6 : a0.f5.f1 = 0
   ·replace h := ip c6 h
    by_cases c7 : (a0.f5.f2.length : Int) = 0
    ·replace h := ip c7 h
     cases h
     exact rt func37 [.b true, .dec 10 true, .dec 16 true, .dec 23 true, .fin] (oN c1 (oT c5 (oT c6 (oT c7 on))))
    ·replace h := iq c7 h
     cases h
     exact rt func37 [.b true, .dec 10 true, .dec 16 true, .dec 23 false, .fin] (oN c1 (oT c5 (oT c6 (oF c7 on))))
   ·replace h := iq c6 h
    cases h
    exact rt func37 [.b true, .dec 10 true, .dec 16 false, .fin] (oN c1 (oT c5 (oF c6 on)))
  ·replace h := iq c5 h
   cases h
   exact rt func37 [.b true, .dec 10 false, .fin] (oN c1 (oF c5 on))
def spec_l10Cells.h0T (a1 : List Int) (v2 : Int) (a0 : S24) : List (Nat × AV) := [(1, .t (.c (.p false (R 1 (eI .i64) 0 a1)))), (2, .ptr 128 0), (5, .t (.c (.p true (iI v2))))]
def spec_l10Cells.h0H (a1 : List Int) (v2 : Int) (a0 : S24) : List (Nat × Content) := [(128, .box 24 [.p false (iI a0.f0), .p false (iI a0.f1), .p false (.sc (.string a0.f2))])]
def spec_l10Cells.l0 : Nat → List Int → S24 → Int → Option Bool
 | 0, _, _, _ => none
 | kq + 1, a1, a0, v2 => if v2 < (a1.length : Int) then (if 0 ≤ v2 then ((spec_FreeAt.f kq a0 (rdD 0 a1 v2)).bind fun t3 => if t3 = true then (if 0 < v2 then (if 0 ≤ (w64 (v2 - 1)) then (if (w64 (v2 - 1)) < (a1.length : Int) then (if (rdD 0 a1 v2) ≤ (rdD 0 a1 (w64 (v2 - 1))) then (some false) else (spec_l10Cells.l0 kq a1 a0 (w64 (v2 + 1)))) else none) else none) else (spec_l10Cells.l0 kq a1 a0 (w64 (v2 + 1)))) else (some false)) else none) else (some true)
def spec_l10Cells.f (k : Nat) (a0 : S24) (a1 : List Int) : Option Bool := spec_l10Cells.l0 k a1 a0 0
theorem spec_l10Cells.go : Callable prog 38 := ⟨_, func38, by kernel_rfl, rfl⟩
theorem spec_l10Cells.ok (k : Nat) (a0 : S24) (a1 : List Int) (r : Bool) (h : spec_l10Cells.f k a0 a1 = some r) : VCalls prog 38 [.agg (e24 a0), .c (R 1 (eI .i64) 0 a1)] [.c (.p (.sc (.bool r)))] := by
 unfold spec_l10Cells.f at h
 refine VCalls.of (fn := f38) (N := 35) func38 rfl rfl (fun w0 => ?_)
 have H0 : ∀ (kq : Nat) (v2 : Int), spec_l10Cells.l0 kq a1 a0 v2 = some r → AG prog 38 35 [.c (.p (.sc (.bool r)))] w0 (headStk (codeOf f38) 0) (mkFS (spec_l10Cells.h0T a1 v2 a0) (spec_l10Cells.h0H a1 v2 a0)) := by
  intro kq
  induction kq with
  | zero => intro v2 h; cases h
  | succ kq ih =>
    intro v2 h
    rw [spec_l10Cells.l0] at h
    by_cases c8 : v2 < (a1.length : Int)
    ·replace h := ip c8 h
     obtain ⟨c9, h⟩ := ifN h
     obtain ⟨t3, g10, h⟩ := bindN h
     let C10 := mkCon (spec_FreeAt.ok kq a0 (rdD 0 a1 v2) t3 g10) spec_FreeAt.go
     by_cases c11 : t3 = true
     ·replace h := ip c11 h
      by_cases c12 : 0 < v2
      ·replace h := ip c12 h
       obtain ⟨c13, h⟩ := ifN h
       obtain ⟨c14, h⟩ := ifN h
       by_cases c15 : (rdD 0 a1 v2) ≤ (rdD 0 a1 (w64 (v2 - 1)))
       ·replace h := ip c15 h
        cases h
        exact rt func38 [.b true, .call C10, .dec 19 false, .dec 22 true, .b true, .fin] (oT c8 (o1 c9 (o1 c8 (oc C10 (o1 (bnf c11) (oT c12 (o1 c13 (o1 c14 (o1 c9 (o1 c8 (oT c15 on)))))))))))
       ·replace h := iq c15 h
        exact hd func38 [.b true, .call C10, .dec 19 false, .dec 22 true, .b false, .fin] (oT c8 (o1 c9 (o1 c8 (oc C10 (o1 (bnf c11) (oT c12 (o1 c13 (o1 c14 (o1 c9 (o1 c8 (oF c15 on))))))))))) (ih (w64 (v2 + 1)) h)
      ·replace h := iq c12 h
       exact hd func38 [.b true, .call C10, .dec 19 false, .dec 22 false, .b false, .fin] (oT c8 (o1 c9 (o1 c8 (oc C10 (o1 (bnf c11) (oF c12 (o1 (rfl : false = false) on))))))) (ih (w64 (v2 + 1)) h)
     ·replace h := iq c11 h
      cases h
      exact rt func38 [.b true, .call C10, .dec 19 true, .b true, .fin] (oT c8 (o1 c9 (o1 c8 (oc C10 (oN c11 (oR on))))))
    ·replace h := iq c8 h
     cases h
     exact rt func38 [.b false, .fin, .fin] (oF c8 on)
 exact hd func38 [.fin] on (H0 k 0 h)
def spec_l11Sorted.h0T (v7 : Int) (v8 : Int) (t1 : List Int) (t2 : List Int) (v6 : List Int) : List (Nat × AV) := [(3, .t (.c (.h 1280))), (4, .t (.c (.h 1664))), (5, .t (.c (.h 1728))), (6, .t (.c (.p true (iI v7)))), (7, .t (.c (.p true (iI v8))))]
def spec_l11Sorted.h0H (v7 : Int) (v8 : Int) (t1 : List Int) (t2 : List Int) (v6 : List Int) : List (Nat × Content) := [(1280, .row 3 1 t1.length (fun j => (eI .i64) (t1.getD j 0)) true), (1664, .row 3 1 t2.length (fun j => (eI .i64) (t2.getD j 0)) true), (1728, .row 3 1 v6.length (fun j => (eI .i64) (v6.getD j 0)) true)]
def spec_l11Sorted.l0 : Nat → List Int → List Int → List Int → Int → Int → Option (List Int)
 | 0, _, _, _, _, _ => none
 | kq + 1, t1, t2, v6, v7, v8 => if v7 < (t1.length : Int) then (if (t2.length : Int) ≤ v8 then (if 0 ≤ v7 then (if (v6.length : Int) = 0 then (if (v6.length + 1) * 8 ≤ 140737488355328 then (spec_l11Sorted.l0 kq t1 t2 (v6 ++ [(rdD 0 t1 v7)]) (w64 (v7 + 1)) v8) else none) else (if 0 ≤ (w64 ((v6.length : Int) - 1)) then (if (w64 ((v6.length : Int) - 1)) < (v6.length : Int) then (if (rdD 0 v6 (w64 ((v6.length : Int) - 1))) = (rdD 0 t1 v7) then (spec_l11Sorted.l0 kq t1 t2 v6 (w64 (v7 + 1)) v8) else (if (v6.length + 1) * 8 ≤ 140737488355328 then (spec_l11Sorted.l0 kq t1 t2 (v6 ++ [(rdD 0 t1 v7)]) (w64 (v7 + 1)) v8) else none)) else none) else none)) else none) else (if 0 ≤ v7 then (if 0 ≤ v8 then (if v8 < (t2.length : Int) then (if (rdD 0 t1 v7) ≤ (rdD 0 t2 v8) then (if (v6.length : Int) = 0 then (if (v6.length + 1) * 8 ≤ 140737488355328 then (spec_l11Sorted.l0 kq t1 t2 (v6 ++ [(rdD 0 t1 v7)]) (w64 (v7 + 1)) v8) else none) else (if 0 ≤ (w64 ((v6.length : Int) - 1)) then (if (w64 ((v6.length : Int) - 1)) < (v6.length : Int) then (if (rdD 0 v6 (w64 ((v6.length : Int) - 1))) = (rdD 0 t1 v7) then (spec_l11Sorted.l0 kq t1 t2 v6 (w64 (v7 + 1)) v8) else (if (v6.length + 1) * 8 ≤ 140737488355328 then (spec_l11Sorted.l0 kq t1 t2 (v6 ++ [(rdD 0 t1 v7)]) (w64 (v7 + 1)) v8) else none)) else none) else none)) else (if (v6.length : Int) = 0 then (if (v6.length + 1) * 8 ≤ 140737488355328 then (spec_l11Sorted.l0 kq t1 t2 (v6 ++ [(rdD 0 t2 v8)]) v7 (w64 (v8 + 1))) else none) else (if 0 ≤ (w64 ((v6.length : Int) - 1)) then (if (w64 ((v6.length : Int) - 1)) < (v6.length : Int) then (if (rdD 0 v6 (w64 ((v6.length : Int) - 1))) = (rdD 0 t2 v8) then (spec_l11Sorted.l0 kq t1 t2 v6 v7 (w64 (v8 + 1))) else (if (v6.length + 1) * 8 ≤ 140737488355328 then (spec_l11Sorted.l0 kq t1 t2 (v6 ++ [(rdD 0 t2 v8)]) v7 (w64 (v8 + 1))) else none)) else none) else none))) else none) else none) else none)) else (if v8 < (t2.length : Int) then (if (t2.length : Int) ≤ v8 then (if 0 ≤ v7 then (if v7 < (t1.length : Int) then (if (v6.length : Int) = 0 then (if (v6.length + 1) * 8 ≤ 140737488355328 then (spec_l11Sorted.l0 kq t1 t2 (v6 ++ [(rdD 0 t1 v7)]) (w64 (v7 + 1)) v8) else none) else (if 0 ≤ (w64 ((v6.length : Int) - 1)) then (if (w64 ((v6.length : Int) - 1)) < (v6.length : Int) then (if (rdD 0 v6 (w64 ((v6.length : Int) - 1))) = (rdD 0 t1 v7) then (spec_l11Sorted.l0 kq t1 t2 v6 (w64 (v7 + 1)) v8) else (if (v6.length + 1) * 8 ≤ 140737488355328 then (spec_l11Sorted.l0 kq t1 t2 (v6 ++ [(rdD 0 t1 v7)]) (w64 (v7 + 1)) v8) else none)) else none) else none)) else none) else none) else (if 0 ≤ v8 then (if (v6.length : Int) = 0 then (if (v6.length + 1) * 8 ≤ 140737488355328 then (spec_l11Sorted.l0 kq t1 t2 (v6 ++ [(rdD 0 t2 v8)]) v7 (w64 (v8 + 1))) else none) else (if 0 ≤ (w64 ((v6.length : Int) - 1)) then (if (w64 ((v6.length : Int) - 1)) < (v6.length : Int) then (if (rdD 0 v6 (w64 ((v6.length : Int) - 1))) = (rdD 0 t2 v8) then (spec_l11Sorted.l0 kq t1 t2 v6 v7 (w64 (v8 + 1))) else (if (v6.length + 1) * 8 ≤ 140737488355328 then (spec_l11Sorted.l0 kq t1 t2 (v6 ++ [(rdD 0 t2 v8)]) v7 (w64 (v8 + 1))) else none)) else none) else none)) else none)) else (some v6))
def spec_l11Sorted.f : Nat → (List Int) → Option (List Int)
 | 0, _ => none
 | k + 1, a0 => if (a0.length : Int) < 2 then (if (([] : List Int).length + a0.length) * 8 ≤ 140737488355328 then (some (([] : List Int) ++ a0)) else none) else (if 0 ≤ (w64 ((a0.length : Int).tdiv 2)) then (if (w64 ((a0.length : Int).tdiv 2)) ≤ (a0.length : Int) then ((spec_l11Sorted.f k ((a0.drop (0 : Int).toNat).take ((w64 ((a0.length : Int).tdiv 2)).toNat - (0 : Int).toNat))).bind fun t1 => (spec_l11Sorted.f k ((a0.drop (w64 ((a0.length : Int).tdiv 2)).toNat).take ((a0.length : Int).toNat - (w64 ((a0.length : Int).tdiv 2)).toNat))).bind fun t2 => spec_l11Sorted.l0 k t1 t2 ([] : List Int) 0 0) else none) else none)
theorem spec_l11Sorted.go : Callable prog 117 := ⟨_, func117, by kernel_rfl, rfl⟩
theorem spec_l11Sorted.ok (k : Nat) (a0 : List Int) (r : (List Int)) (h : spec_l11Sorted.f k a0 = some r) : VCalls prog 117 [.c (R 1 (eI .i64) 0 a0)] [.c (.own 3 1 r.length (fun j => (eI .i64) (r.getD j 0)))] := by
 induction k generalizing r a0 with
 | zero => cases h
 | succ k ihk =>
   have ihf := fun a0 r h => ihk a0 r h
   rw [spec_l11Sorted.f] at h
   refine VCalls.of (fn := f117) (N := 89) func117 rfl rfl (fun w0 => ?_)
   by_cases c1 : (a0.length : Int) < 2
   ·replace h := ip c1 h
    obtain ⟨c2, h⟩ := ifN h
    cases h
    exact rt func117 [.b true, rowe 12 (eI .i64) 0 ([] : List Int), .aft 14, orow 768 (eI .i64) 0 (([] : List Int) ++ a0), .fin, .flat 768] (oT c1 (o1 (GE.lit 1 (eI .i64) 0 ([] : List Int) (by intro x; rfl)) (o1 c2 (o1 (GE.app (e := (eI .i64)) (d := 0) ([] : List Int) a0 rfl (fun _ _ => CE.refl _) rfl) (o1 (SC.of (e := (eI .i64)) (d := 0) (([] : List Int) ++ a0) (by intro x; rfl)) on)))))
   ·replace h := iq c1 h
    obtain ⟨c3, h⟩ := ifN h
    obtain ⟨c4, h⟩ := ifN h
    obtain ⟨t1, g5, h⟩ := bindN h
    let C5 := mkCon (ihf ((a0.drop (0 : Int).toNat).take ((w64 ((a0.length : Int).tdiv 2)).toNat - (0 : Int).toNat)) t1 g5) spec_l11Sorted.go
    obtain ⟨t2, g6, h⟩ := bindN h
    let C6 := mkCon (ihf ((a0.drop (w64 ((a0.length : Int).tdiv 2)).toNat).take ((a0.length : Int).toNat - (w64 ((a0.length : Int).tdiv 2)).toNat)) t2 g6) spec_l11Sorted.go
    have H0 : ∀ (kq : Nat) (v6 : List Int) (v7 : Int) (v8 : Int), spec_l11Sorted.l0 kq t1 t2 v6 v7 v8 = some r → AG prog 117 89 [.c (.own 3 1 r.length (fun j => (eI .i64) (r.getD j 0)))] w0 (headStk (codeOf f117) 0) (mkFS (spec_l11Sorted.h0T v7 v8 t1 t2 v6) (spec_l11Sorted.h0H v7 v8 t1 t2 v6)) := by
     intro kq
     induction kq with
     | zero => intro v6 v7 v8 h; cases h
     | succ kq ih =>
       intro v6 v7 v8 h
       rw [spec_l11Sorted.l0] at h
       by_cases c36 : v7 < (t1.length : Int)
       ·replace h := ip c36 h
        by_cases c37 : (t2.length : Int) ≤ v8
        ·replace h := ip c37 h
         obtain ⟨c38, h⟩ := ifN h
         by_cases c39 : (v6.length : Int) = 0
         ·replace h := ip c39 h
          obtain ⟨c40, h⟩ := ifN h
          exact hd func117 [.dec 32 true, .b true, .dec 42 true, .b true, .dec 74 true, .b true, rowe 86 (eI .i64) 0 ([(rdD 0 t1 v7)]), .aft 87, orow 1728 (eI .i64) 0 (v6 ++ [(rdD 0 t1 v7)]), .fin] (oT c36 (oR (oT c37 (oR (o1 c38 (o1 c36 (oT c39 (oR (o1 (GE.lit 1 (eI .i64) 0 [(rdD 0 t1 v7)] (by intro x; rfl)) (o1 c40 (o1 (GE.app (e := (eI .i64)) (d := 0) v6 ([(rdD 0 t1 v7)]) rfl (fun _ _ => CE.refl _) rfl) on))))))))))) (ih (v6 ++ [(rdD 0 t1 v7)]) (w64 (v7 + 1)) v8 h)
         ·replace h := iq c39 h
          obtain ⟨c41, h⟩ := ifN h
          obtain ⟨c42, h⟩ := ifN h
          by_cases c43 : (rdD 0 v6 (w64 ((v6.length : Int) - 1))) = (rdD 0 t1 v7)
          ·replace h := ip c43 h
           exact hd func117 [.dec 32 true, .b true, .dec 42 true, .b true, .dec 74 false, .b false, .fin] (oT c36 (oR (oT c37 (oR (o1 c38 (o1 c36 (oF c39 (o1 c41 (o1 c42 (o1 (bnf (decide_eq_true c43)) on)))))))))) (ih v6 (w64 (v7 + 1)) v8 h)
          ·replace h := iq c43 h
           obtain ⟨c44, h⟩ := ifN h
           exact hd func117 [.dec 32 true, .b true, .dec 42 true, .b true, .dec 74 false, .b true, rowe 86 (eI .i64) 0 ([(rdD 0 t1 v7)]), .aft 87, orow 1728 (eI .i64) 0 (v6 ++ [(rdD 0 t1 v7)]), .fin] (oT c36 (oR (oT c37 (oR (o1 c38 (o1 c36 (oF c39 (o1 c41 (o1 c42 (o1 (bnt (decide_eq_false c43)) (o1 (GE.lit 1 (eI .i64) 0 [(rdD 0 t1 v7)] (by intro x; rfl)) (o1 c44 (o1 (GE.app (e := (eI .i64)) (d := 0) v6 ([(rdD 0 t1 v7)]) rfl (fun _ _ => CE.refl _) rfl) on))))))))))))) (ih (v6 ++ [(rdD 0 t1 v7)]) (w64 (v7 + 1)) v8 h)
        ·replace h := iq c37 h
         obtain ⟨c45, h⟩ := ifN h
         obtain ⟨c46, h⟩ := ifN h
         obtain ⟨c47, h⟩ := ifN h
         by_cases c48 : (rdD 0 t1 v7) ≤ (rdD 0 t2 v8)
         ·replace h := ip c48 h
          by_cases c49 : (v6.length : Int) = 0
          ·replace h := ip c49 h
           obtain ⟨c50, h⟩ := ifN h
           exact hd func117 [.dec 32 true, .b true, .dec 42 false, .dec 47 true, .b true, .dec 74 true, .b true, rowe 86 (eI .i64) 0 ([(rdD 0 t1 v7)]), .aft 87, orow 1728 (eI .i64) 0 (v6 ++ [(rdD 0 t1 v7)]), .fin] (oT c36 (oR (oF c37 (oT c36 (o1 c45 (o1 c36 (o1 c46 (o1 c47 (oT c48 (o1 c45 (o1 c36 (oT c49 (oR (o1 (GE.lit 1 (eI .i64) 0 [(rdD 0 t1 v7)] (by intro x; rfl)) (o1 c50 (o1 (GE.app (e := (eI .i64)) (d := 0) v6 ([(rdD 0 t1 v7)]) rfl (fun _ _ => CE.refl _) rfl) on)))))))))))))))) (ih (v6 ++ [(rdD 0 t1 v7)]) (w64 (v7 + 1)) v8 h)
          ·replace h := iq c49 h
           obtain ⟨c51, h⟩ := ifN h
           obtain ⟨c52, h⟩ := ifN h
           by_cases c53 : (rdD 0 v6 (w64 ((v6.length : Int) - 1))) = (rdD 0 t1 v7)
           ·replace h := ip c53 h
            exact hd func117 [.dec 32 true, .b true, .dec 42 false, .dec 47 true, .b true, .dec 74 false, .b false, .fin] (oT c36 (oR (oF c37 (oT c36 (o1 c45 (o1 c36 (o1 c46 (o1 c47 (oT c48 (o1 c45 (o1 c36 (oF c49 (o1 c51 (o1 c52 (o1 (bnf (decide_eq_true c53)) on))))))))))))))) (ih v6 (w64 (v7 + 1)) v8 h)
           ·replace h := iq c53 h
            obtain ⟨c54, h⟩ := ifN h
            exact hd func117 [.dec 32 true, .b true, .dec 42 false, .dec 47 true, .b true, .dec 74 false, .b true, rowe 86 (eI .i64) 0 ([(rdD 0 t1 v7)]), .aft 87, orow 1728 (eI .i64) 0 (v6 ++ [(rdD 0 t1 v7)]), .fin] (oT c36 (oR (oF c37 (oT c36 (o1 c45 (o1 c36 (o1 c46 (o1 c47 (oT c48 (o1 c45 (o1 c36 (oF c49 (o1 c51 (o1 c52 (o1 (bnt (decide_eq_false c53)) (o1 (GE.lit 1 (eI .i64) 0 [(rdD 0 t1 v7)] (by intro x; rfl)) (o1 c54 (o1 (GE.app (e := (eI .i64)) (d := 0) v6 ([(rdD 0 t1 v7)]) rfl (fun _ _ => CE.refl _) rfl) on)))))))))))))))))) (ih (v6 ++ [(rdD 0 t1 v7)]) (w64 (v7 + 1)) v8 h)
         ·replace h := iq c48 h
          by_cases c55 : (v6.length : Int) = 0
          ·replace h := ip c55 h
           obtain ⟨c56, h⟩ := ifN h
           exact hd func117 [.dec 32 true, .b true, .dec 42 false, .dec 47 true, .b false, .dec 74 true, .b true, rowe 86 (eI .i64) 0 ([(rdD 0 t2 v8)]), .aft 87, orow 1728 (eI .i64) 0 (v6 ++ [(rdD 0 t2 v8)]), .fin] (oT c36 (oR (oF c37 (oT c36 (o1 c45 (o1 c36 (o1 c46 (o1 c47 (oF c48 (o1 c46 (o1 c47 (oT c55 (oR (o1 (GE.lit 1 (eI .i64) 0 [(rdD 0 t2 v8)] (by intro x; rfl)) (o1 c56 (o1 (GE.app (e := (eI .i64)) (d := 0) v6 ([(rdD 0 t2 v8)]) rfl (fun _ _ => CE.refl _) rfl) on)))))))))))))))) (ih (v6 ++ [(rdD 0 t2 v8)]) v7 (w64 (v8 + 1)) h)
          ·replace h := iq c55 h
           obtain ⟨c57, h⟩ := ifN h
           obtain ⟨c58, h⟩ := ifN h
           by_cases c59 : (rdD 0 v6 (w64 ((v6.length : Int) - 1))) = (rdD 0 t2 v8)
           ·replace h := ip c59 h
            exact hd func117 [.dec 32 true, .b true, .dec 42 false, .dec 47 true, .b false, .dec 74 false, .b false, .fin] (oT c36 (oR (oF c37 (oT c36 (o1 c45 (o1 c36 (o1 c46 (o1 c47 (oF c48 (o1 c46 (o1 c47 (oF c55 (o1 c57 (o1 c58 (o1 (bnf (decide_eq_true c59)) on))))))))))))))) (ih v6 v7 (w64 (v8 + 1)) h)
           ·replace h := iq c59 h
            obtain ⟨c60, h⟩ := ifN h
            exact hd func117 [.dec 32 true, .b true, .dec 42 false, .dec 47 true, .b false, .dec 74 false, .b true, rowe 86 (eI .i64) 0 ([(rdD 0 t2 v8)]), .aft 87, orow 1728 (eI .i64) 0 (v6 ++ [(rdD 0 t2 v8)]), .fin] (oT c36 (oR (oF c37 (oT c36 (o1 c45 (o1 c36 (o1 c46 (o1 c47 (oF c48 (o1 c46 (o1 c47 (oF c55 (o1 c57 (o1 c58 (o1 (bnt (decide_eq_false c59)) (o1 (GE.lit 1 (eI .i64) 0 [(rdD 0 t2 v8)] (by intro x; rfl)) (o1 c60 (o1 (GE.app (e := (eI .i64)) (d := 0) v6 ([(rdD 0 t2 v8)]) rfl (fun _ _ => CE.refl _) rfl) on)))))))))))))))))) (ih (v6 ++ [(rdD 0 t2 v8)]) v7 (w64 (v8 + 1)) h)
       ·replace h := iq c36 h
        by_cases c61 : v8 < (t2.length : Int)
        ·replace h := ip c61 h
         by_cases c62 : (t2.length : Int) ≤ v8
         ·replace h := ip c62 h
          obtain ⟨c63, h⟩ := ifN h
          obtain ⟨c64, h⟩ := ifN h
          by_cases c65 : (v6.length : Int) = 0
          ·replace h := ip c65 h
           obtain ⟨c66, h⟩ := ifN h
           exact hd func117 [.dec 32 false, .b true, .dec 42 true, .b true, .dec 74 true, .b true, rowe 86 (eI .i64) 0 ([(rdD 0 t1 v7)]), .aft 87, orow 1728 (eI .i64) 0 (v6 ++ [(rdD 0 t1 v7)]), .fin] (oF c36 (oT c61 (oT c62 (oR (o1 c63 (o1 c64 (oT c65 (oR (o1 (GE.lit 1 (eI .i64) 0 [(rdD 0 t1 v7)] (by intro x; rfl)) (o1 c66 (o1 (GE.app (e := (eI .i64)) (d := 0) v6 ([(rdD 0 t1 v7)]) rfl (fun _ _ => CE.refl _) rfl) on))))))))))) (ih (v6 ++ [(rdD 0 t1 v7)]) (w64 (v7 + 1)) v8 h)
          ·replace h := iq c65 h
           obtain ⟨c67, h⟩ := ifN h
           obtain ⟨c68, h⟩ := ifN h
           by_cases c69 : (rdD 0 v6 (w64 ((v6.length : Int) - 1))) = (rdD 0 t1 v7)
           ·replace h := ip c69 h
            exact hd func117 [.dec 32 false, .b true, .dec 42 true, .b true, .dec 74 false, .b false, .fin] (oF c36 (oT c61 (oT c62 (oR (o1 c63 (o1 c64 (oF c65 (o1 c67 (o1 c68 (o1 (bnf (decide_eq_true c69)) on)))))))))) (ih v6 (w64 (v7 + 1)) v8 h)
           ·replace h := iq c69 h
            obtain ⟨c70, h⟩ := ifN h
            exact hd func117 [.dec 32 false, .b true, .dec 42 true, .b true, .dec 74 false, .b true, rowe 86 (eI .i64) 0 ([(rdD 0 t1 v7)]), .aft 87, orow 1728 (eI .i64) 0 (v6 ++ [(rdD 0 t1 v7)]), .fin] (oF c36 (oT c61 (oT c62 (oR (o1 c63 (o1 c64 (oF c65 (o1 c67 (o1 c68 (o1 (bnt (decide_eq_false c69)) (o1 (GE.lit 1 (eI .i64) 0 [(rdD 0 t1 v7)] (by intro x; rfl)) (o1 c70 (o1 (GE.app (e := (eI .i64)) (d := 0) v6 ([(rdD 0 t1 v7)]) rfl (fun _ _ => CE.refl _) rfl) on))))))))))))) (ih (v6 ++ [(rdD 0 t1 v7)]) (w64 (v7 + 1)) v8 h)
         ·replace h := iq c62 h
          obtain ⟨c71, h⟩ := ifN h
          by_cases c72 : (v6.length : Int) = 0
          ·replace h := ip c72 h
           obtain ⟨c73, h⟩ := ifN h
           exact hd func117 [.dec 32 false, .b true, .dec 42 false, .dec 47 false, .b false, .dec 74 true, .b true, rowe 86 (eI .i64) 0 ([(rdD 0 t2 v8)]), .aft 87, orow 1728 (eI .i64) 0 (v6 ++ [(rdD 0 t2 v8)]), .fin] (oF c36 (oT c61 (oF c62 (oF c36 (o1 (rfl : false = false) (o1 c71 (o1 c61 (oT c72 (oR (o1 (GE.lit 1 (eI .i64) 0 [(rdD 0 t2 v8)] (by intro x; rfl)) (o1 c73 (o1 (GE.app (e := (eI .i64)) (d := 0) v6 ([(rdD 0 t2 v8)]) rfl (fun _ _ => CE.refl _) rfl) on)))))))))))) (ih (v6 ++ [(rdD 0 t2 v8)]) v7 (w64 (v8 + 1)) h)
          ·replace h := iq c72 h
           obtain ⟨c74, h⟩ := ifN h
           obtain ⟨c75, h⟩ := ifN h
           by_cases c76 : (rdD 0 v6 (w64 ((v6.length : Int) - 1))) = (rdD 0 t2 v8)
           ·replace h := ip c76 h
            exact hd func117 [.dec 32 false, .b true, .dec 42 false, .dec 47 false, .b false, .dec 74 false, .b false, .fin] (oF c36 (oT c61 (oF c62 (oF c36 (o1 (rfl : false = false) (o1 c71 (o1 c61 (oF c72 (o1 c74 (o1 c75 (o1 (bnf (decide_eq_true c76)) on))))))))))) (ih v6 v7 (w64 (v8 + 1)) h)
           ·replace h := iq c76 h
            obtain ⟨c77, h⟩ := ifN h
            exact hd func117 [.dec 32 false, .b true, .dec 42 false, .dec 47 false, .b false, .dec 74 false, .b true, rowe 86 (eI .i64) 0 ([(rdD 0 t2 v8)]), .aft 87, orow 1728 (eI .i64) 0 (v6 ++ [(rdD 0 t2 v8)]), .fin] (oF c36 (oT c61 (oF c62 (oF c36 (o1 (rfl : false = false) (o1 c71 (o1 c61 (oF c72 (o1 c74 (o1 c75 (o1 (bnt (decide_eq_false c76)) (o1 (GE.lit 1 (eI .i64) 0 [(rdD 0 t2 v8)] (by intro x; rfl)) (o1 c77 (o1 (GE.app (e := (eI .i64)) (d := 0) v6 ([(rdD 0 t2 v8)]) rfl (fun _ _ => CE.refl _) rfl) on)))))))))))))) (ih (v6 ++ [(rdD 0 t2 v8)]) v7 (w64 (v8 + 1)) h)
        ·replace h := iq c61 h
         cases h
         exact rt func117 [.dec 32 false, .b false, .fin, .fin] (oF c36 (oF c61 on))
    exact hd func117 [.b false, .cst 19 (R 1 (eI .i64) 0 ((a0.drop (0 : Int).toNat).take ((w64 ((a0.length : Int).tdiv 2)).toNat - (0 : Int).toNat))), .call C5, .cst 25 (R 1 (eI .i64) 0 ((a0.drop (w64 ((a0.length : Int).tdiv 2)).toNat).take ((a0.length : Int).toNat - (w64 ((a0.length : Int).tdiv 2)).toNat))), .call C6, rowe 27 (eI .i64) 0 ([] : List Int), .fin] (oF c1 (o1 (by decide : (2 : Int) ≠ 0) (o1 (by decide : (0 : Int) ≤ 0) (o1 c3 (o1 c4 (o1 (VE.cut (z := 1) (e := (eI .i64)) (d := 0) a0 (n := a0.length) (lo := 0) (hi := (w64 ((a0.length : Int).tdiv 2))) rfl (by decide : (0 : Int) ≤ 0) c3 c4) (oc C5 (o1 (by decide : (2 : Int) ≠ 0) (o1 c3 (o1 c4 (o1 (Int.le_refl (a0.length : Int)) (o1 (VE.cut (z := 1) (e := (eI .i64)) (d := 0) a0 (n := a0.length) (lo := (w64 ((a0.length : Int).tdiv 2))) (hi := (a0.length : Int)) rfl c3 c4 (Int.le_refl (a0.length : Int))) (oc C6 (o1 (GE.lit 1 (eI .i64) 0 ([] : List Int) (by intro x; rfl)) on)))))))))))))) (H0 k ([] : List Int) 0 0 h)
def spec_CellsUsed.h0T (a0 : List S53) (v3 : Int) (v2 : List Int) : List (Nat × AV) := [(0, .t (.c (.p false (R 1 e53 z53 a0)))), (3, .t (.c (.h 320))), (4, .t (.c (.p true (iI v3))))]
def spec_CellsUsed.h0H (a0 : List S53) (v3 : Int) (v2 : List Int) : List (Nat × Content) := [(320, .row 3 1 v2.length (fun j => (eI .i64) (v2.getD j 0)) true)]
def spec_CellsUsed.l0 : Nat → List S53 → List Int → Int → Option (List Int)
 | 0, _, _, _ => none
 | kq + 1, a0, v2, v3 => if v3 < (a0.length : Int) then (if 0 ≤ v3 then (if (v2.length + ((rdD z53 a0 v3).f0).length) * 8 ≤ 140737488355328 then (spec_CellsUsed.l0 kq a0 (v2 ++ (rdD z53 a0 v3).f0) (w64 (v3 + 1))) else none) else none) else ((spec_l11Sorted.f kq v2).bind fun t4 => some t4)
def spec_CellsUsed.f (k : Nat) (a0 : List S53) : Option (List Int) := spec_CellsUsed.l0 k a0 ([] : List Int) 0
theorem spec_CellsUsed.go : Callable prog 76 := ⟨_, func76, by kernel_rfl, rfl⟩
theorem spec_CellsUsed.ok (k : Nat) (a0 : List S53) (r : (List Int)) (h : spec_CellsUsed.f k a0 = some r) : VCalls prog 76 [.c (R 1 e53 z53 a0)] [.c (.own 3 1 r.length (fun j => (eI .i64) (r.getD j 0)))] := by
 unfold spec_CellsUsed.f at h
 refine VCalls.of (fn := f76) (N := 21) func76 rfl rfl (fun w0 => ?_)
 have H0 : ∀ (kq : Nat) (v2 : List Int) (v3 : Int), spec_CellsUsed.l0 kq a0 v2 v3 = some r → AG prog 76 21 [.c (.own 3 1 r.length (fun j => (eI .i64) (r.getD j 0)))] w0 (headStk (codeOf f76) 0) (mkFS (spec_CellsUsed.h0T a0 v3 v2) (spec_CellsUsed.h0H a0 v3 v2)) := by
  intro kq
  induction kq with
  | zero => intro v2 v3 h; cases h
  | succ kq ih =>
    intro v2 v3 h
    rw [spec_CellsUsed.l0] at h
    by_cases c6 : v3 < (a0.length : Int)
    ·replace h := ip c6 h
     obtain ⟨c7, h⟩ := ifN h
     obtain ⟨c8, h⟩ := ifN h
     exact hd func76 [.b true, .aft 18, orow 320 (eI .i64) 0 (v2 ++ (rdD z53 a0 v3).f0), .reg 4, .flat 320, .fin] (oT c6 (o1 c7 (o1 c6 (o1 c8 (o1 (GE.app (e := (eI .i64)) (d := 0) v2 ((rdD z53 a0 v3).f0) rfl (fun _ _ => CE.refl _) rfl) (o1 (SC.of (e := (eI .i64)) (d := 0) (v2 ++ (rdD z53 a0 v3).f0) (by intro x; rfl)) on)))))) (ih (v2 ++ (rdD z53 a0 v3).f0) (w64 (v3 + 1)) h)
    ·replace h := iq c6 h
     obtain ⟨t4, g9, h⟩ := bindN h
     let C9 := mkCon (spec_l11Sorted.ok kq v2 t4 g9) spec_l11Sorted.go
     cases h
     exact rt func76 [.b false, .fin, .call C9, .fin] (oF c6 (oc C9 on))
 exact hd func76 [rowe 5 (eI .i64) 0 ([] : List Int), .fin] (o1 (GE.lit 1 (eI .i64) 0 ([] : List Int) (by intro x; rfl)) on) (H0 k ([] : List Int) 0 h)
def spec_Footprint.f (k : Nat) (a0 : S35) : Option (List Int) := if a0.f4 = true then ((spec_CellsUsed.f k a0.f5.f2).bind fun t1 => some t1) else (some ([] : List Int))
theorem spec_Footprint.go : Callable prog 39 := ⟨_, func39, by kernel_rfl, rfl⟩
theorem spec_Footprint.ok (k : Nat) (a0 : S35) (r : (List Int)) (h : spec_Footprint.f k a0 = some r) : VCalls prog 39 [.agg (e35 a0)] [.c (.own 3 1 r.length (fun j => (eI .i64) (r.getD j 0)))] := by
 unfold spec_Footprint.f at h
 refine VCalls.of (fn := f39) (N := 11) func39 rfl rfl (fun w0 => ?_)
 by_cases c1 : a0.f4 = true
 ·replace h := ip c1 h
  obtain ⟨t1, g2, h⟩ := bindN h
  let C2 := mkCon (spec_CellsUsed.ok k a0.f5.f2 t1 g2) spec_CellsUsed.go
  cases h
  exact rt func39 [.b false, .call C2, .fin] (o1 (bnf c1) (oc C2 on))
 ·replace h := iq c1 h
  cases h
  exact rt func39 [.b true, rowe 6 (eI .i64) 0 ([] : List Int), .fin] (oN c1 (o1 (GE.lit 1 (eI .i64) 0 ([] : List Int) (by intro x; rfl)) on))
def spec_Walled.h0T (a1 : List Int) (v4 : Int) (a0 : S24) (v3 : List Int) : List (Nat × AV) := [(1, .t (.c (.p false (R 1 (eI .i64) 0 a1)))), (2, .ptr 128 0), (4, .ptr 256 0), (5, .t (.c (.h 832))), (6, .t (.c (.p true (iI v4))))]
def spec_Walled.h0H (a1 : List Int) (v4 : Int) (a0 : S24) (v3 : List Int) : List (Nat × Content) := [(128, .box 24 [.p false (iI a0.f0), .p false (iI a0.f1), .p false (.sc (.string a0.f2))]), (256, .box 24 [.p true (iI 0), .p true (iI 0), .p true (.sc (.string (⟨#[]⟩ : ByteArray)))]), (832, .row 1099511627781 1 v3.length (fun j => (eI .u8) (v3.getD j 0)) true)]
def spec_Walled.l0 : Nat → List Int → S24 → List Int → Int → Option S24
 | 0, _, _, _, _ => none
 | kq + 1, a1, a0, v3, v4 => if v4 < (a1.length : Int) then (if 0 ≤ v4 then (if 0 ≤ (rdD 0 a1 v4) then (if (rdD 0 a1 v4) < (v3.length : Int) then (spec_Walled.l0 kq a1 a0 (v3.set (rdD 0 a1 v4).toNat 35) (w64 (v4 + 1))) else (spec_Walled.l0 kq a1 a0 v3 (w64 (v4 + 1)))) else (spec_Walled.l0 kq a1 a0 v3 (w64 (v4 + 1)))) else none) else (if isBytes v3 = true then (some (⟨a0.f0, a0.f1, (strOf v3)⟩ : S24)) else none)
def spec_Walled.f (k : Nat) (a0 : S24) (a1 : List Int) : Option S24 := (spec_GridOk.f k a0).bind fun t1 => if t1 = true then (if a0.f2.size ≤ maxLen then (spec_Walled.l0 k a1 a0 (bytesOf a0.f2) 0) else none) else (some a0)
theorem spec_Walled.go : Callable prog 42 := ⟨_, func42, by kernel_rfl, rfl⟩
theorem spec_Walled.ok (k : Nat) (a0 : S24) (a1 : List Int) (r : S24) (h : spec_Walled.f k a0 a1 = some r) : VCalls prog 42 [.agg (e24 a0), .c (R 1 (eI .i64) 0 a1)] [.agg (r24 r)] := by
 unfold spec_Walled.f at h
 refine VCalls.of (fn := f42) (N := 47) func42 rfl rfl (fun w0 => ?_)
 obtain ⟨t1, g1, h⟩ := bindN h
 let C1 := mkCon (spec_GridOk.ok k a0 t1 g1) spec_GridOk.go
 by_cases c2 : t1 = true
 ·replace h := ip c2 h
  obtain ⟨c3, h⟩ := ifN h
  have H0 : ∀ (kq : Nat) (v3 : List Int) (v4 : Int), spec_Walled.l0 kq a1 a0 v3 v4 = some r → AG prog 42 47 [.agg (r24 r)] w0 (headStk (codeOf f42) 0) (mkFS (spec_Walled.h0T a1 v4 a0 v3) (spec_Walled.h0H a1 v4 a0 v3)) := by
   intro kq
   induction kq with
   | zero => intro v3 v4 h; cases h
   | succ kq ih =>
     intro v3 v4 h
     rw [spec_Walled.l0] at h
     by_cases c11 : v4 < (a1.length : Int)
     ·replace h := ip c11 h
      obtain ⟨c12, h⟩ := ifN h
      by_cases c13 : 0 ≤ (rdD 0 a1 v4)
      ·replace h := ip c13 h
       by_cases c14 : (rdD 0 a1 v4) < (v3.length : Int)
       ·replace h := ip c14 h
        exact hd func42 [.b true, .dec 25 true, .b true, .aft 999999, orow 832 (eI .u8) 0 (v3.set (rdD 0 a1 v4).toNat 35), .fin] (oT c11 (o1 c12 (o1 c11 (oT c13 (o1 c12 (o1 c11 (oT c14 (o1 c12 (o1 c11 (o1 c13 (o1 c14 (o1 (GE.set (e := (eI .u8)) (d := 0) v3 (rdD 0 a1 v4).toNat 35 (lt_toNat c13 c14) rfl) on)))))))))))) (ih (v3.set (rdD 0 a1 v4).toNat 35) (w64 (v4 + 1)) h)
       ·replace h := iq c14 h
        exact hd func42 [.b true, .dec 25 true, .b false, .fin] (oT c11 (o1 c12 (o1 c11 (oT c13 (o1 c12 (o1 c11 (oF c14 on))))))) (ih v3 (w64 (v4 + 1)) h)
      ·replace h := iq c13 h
       exact hd func42 [.b true, .dec 25 false, .b false, .fin] (oT c11 (o1 c12 (o1 c11 (oF c13 (o1 (rfl : false = false) on))))) (ih v3 (w64 (v4 + 1)) h)
     ·replace h := iq c11 h
      obtain ⟨c15, h⟩ := ifN h
      cases h
      exact rt func42 [.b false, .fin, .cst 45 (.sc (.string (strOf v3))), .fin] (oF c11 (o1 (ByOk.of c15) (o1 (VE.str v3) on)))
  exact hd func42 [.call C1, .b false, rowe 13 (eI .u8) 0 (bytesOf a0.f2), .fin] (oc C1 (o1 (bnf c2) (o1 c3 (o1 (GE.bytes a0.f2) on)))) (H0 k (bytesOf a0.f2) 0 h)
 ·replace h := iq c2 h
  cases h
  exact rt func42 [.call C1, .b true, .fin] (oc C1 (oN c2 on))
def spec_FreeCells.h0T (v5 : Int) (a0 : S24) (v4 : List Int) : List (Nat × AV) := [(1, .ptr 64 0), (3, .t (.c (.h 320))), (4, .t (.c (.p true (iI v5))))]
def spec_FreeCells.h0H (v5 : Int) (a0 : S24) (v4 : List Int) : List (Nat × Content) := [(64, .box 24 [.p false (iI a0.f0), .p false (iI a0.f1), .p false (.sc (.string a0.f2))]), (320, .row 3 1 v4.length (fun j => (eI .i64) (v4.getD j 0)) true)]
def spec_FreeCells.l0 : Nat → S24 → List Int → Int → Option (List Int)
 | 0, _, _, _ => none
 | kq + 1, a0, v4, v5 => if v5 < (a0.f2.size : Int) then (if v5 < 64 then ((spec_FreeAt.f kq a0 v5).bind fun t6 => if t6 = true then (if (v4.length + 1) * 8 ≤ 140737488355328 then (spec_FreeCells.l0 kq a0 (v4 ++ [v5]) (w64 (v5 + 1))) else none) else (spec_FreeCells.l0 kq a0 v4 (w64 (v5 + 1)))) else (some v4)) else (some v4)
def spec_FreeCells.f (k : Nat) (a0 : S24) : Option (List Int) := spec_FreeCells.l0 k a0 ([] : List Int) 0
theorem spec_FreeCells.go : Callable prog 118 := ⟨_, func118, by kernel_rfl, rfl⟩
theorem spec_FreeCells.ok (k : Nat) (a0 : S24) (r : (List Int)) (h : spec_FreeCells.f k a0 = some r) : VCalls prog 118 [.agg (e24 a0)] [.c (.own 3 1 r.length (fun j => (eI .i64) (r.getD j 0)))] := by
 unfold spec_FreeCells.f at h
 refine VCalls.of (fn := f118) (N := 25) func118 rfl rfl (fun w0 => ?_)
 have H0 : ∀ (kq : Nat) (v4 : List Int) (v5 : Int), spec_FreeCells.l0 kq a0 v4 v5 = some r → AG prog 118 25 [.c (.own 3 1 r.length (fun j => (eI .i64) (r.getD j 0)))] w0 (headStk (codeOf f118) 0) (mkFS (spec_FreeCells.h0T v5 a0 v4) (spec_FreeCells.h0H v5 a0 v4)) := by
  intro kq
  induction kq with
  | zero => intro v4 v5 h; cases h
  | succ kq ih =>
    intro v4 v5 h
    rw [spec_FreeCells.l0] at h
    by_cases c11 : v5 < (a0.f2.size : Int)
    ·replace h := ip c11 h
     by_cases c12 : v5 < 64
     ·replace h := ip c12 h
      obtain ⟨t6, g13, h⟩ := bindN h
      let C13 := mkCon (spec_FreeAt.ok kq a0 v5 t6 g13) spec_FreeAt.go
      by_cases c14 : t6 = true
      ·replace h := ip c14 h
       obtain ⟨c15, h⟩ := ifN h
       exact hd func118 [.dec 11 true, .b true, .call C13, .b true, rowe 22 (eI .i64) 0 ([v5]), .aft 23, orow 320 (eI .i64) 0 (v4 ++ [v5]), .fin] (oT c11 (oT c12 (oc C13 (o1 c14 (o1 (GE.lit 1 (eI .i64) 0 [v5] (by intro x; rfl)) (o1 c15 (o1 (GE.app (e := (eI .i64)) (d := 0) v4 ([v5]) rfl (fun _ _ => CE.refl _) rfl) on))))))) (ih (v4 ++ [v5]) (w64 (v5 + 1)) h)
      ·replace h := iq c14 h
       exact hd func118 [.dec 11 true, .b true, .call C13, .b false, .fin] (oT c11 (oT c12 (oc C13 (o1 (eqf c14) on)))) (ih v4 (w64 (v5 + 1)) h)
     ·replace h := iq c12 h
      cases h
      exact rt func118 [.dec 11 true, .b false, .fin, .fin] (oT c11 (oF c12 on))
    ·replace h := iq c11 h
     cases h
     exact rt func118 [.dec 11 false, .b false, .fin, .fin] (oF c11 (o1 (rfl : false = false) on))
 exact hd func118 [rowe 5 (eI .i64) 0 ([] : List Int), .fin] (o1 (GE.lit 1 (eI .i64) 0 ([] : List Int) (by intro x; rfl)) on) (H0 k ([] : List Int) 0 h)
def spec_AskOk.f (k : Nat) (a0 : S24) (a1 : List Int) (a2 : List Int) (a3 : Int) : Option Bool := (spec_GridOk.f k a0).bind fun t1 => if t1 = true then ((spec_l01In.f (a1.length : Int) 1 10).bind fun t2 => if t2 = true then (if (a1.length : Int) < (a2.length : Int) then (some false) else ((spec_l01In.f a3 0 20).bind fun t3 => if t3 = true then ((spec_l10Cells.f k a0 a1).bind fun t4 => if t4 = true then ((spec_l10Cells.f k a0 a2).bind fun t5 => if t5 = true then ((spec_FreeCells.f k a0).bind fun t6 => some (decide ((w64 ((t6.length : Int) * (w64 (a3 + 1)))) ≤ 240))) else (some false)) else (some false)) else (some false))) else (some false)) else (some false)
theorem spec_AskOk.go : Callable prog 77 := ⟨_, func77, by kernel_rfl, rfl⟩
theorem spec_AskOk.ok (k : Nat) (a0 : S24) (a1 : List Int) (a2 : List Int) (a3 : Int) (r : Bool) (h : spec_AskOk.f k a0 a1 a2 a3 = some r) : VCalls prog 77 [.agg (e24 a0), .c (R 1 (eI .i64) 0 a1), .c (R 1 (eI .i64) 0 a2), .c (iI a3)] [.c (.p (.sc (.bool r)))] := by
 unfold spec_AskOk.f at h
 refine VCalls.of (fn := f77) (N := 47) func77 rfl rfl (fun w0 => ?_)
 obtain ⟨t1, g1, h⟩ := bindN h
 let C1 := mkCon (spec_GridOk.ok k a0 t1 g1) spec_GridOk.go
 by_cases c2 : t1 = true
 ·replace h := ip c2 h
  obtain ⟨t2, g3, h⟩ := bindN h
  let C3 := mkCon (spec_l01In.ok (a1.length : Int) 1 10 t2 g3) spec_l01In.go
  by_cases c4 : t2 = true
  ·replace h := ip c4 h
   by_cases c5 : (a1.length : Int) < (a2.length : Int)
   ·replace h := ip c5 h
    cases h
    exact rt func77 [.call C1, .dec 12 false, .call C3, .dec 18 false, .dec 25 true, .b true, .fin] (oc C1 (o1 (bnf c2) (oc C3 (o1 (bnf c4) (oT c5 (oR on))))))
   ·replace h := iq c5 h
    obtain ⟨t3, g6, h⟩ := bindN h
    let C6 := mkCon (spec_l01In.ok a3 0 20 t3 g6) spec_l01In.go
    by_cases c7 : t3 = true
    ·replace h := ip c7 h
     obtain ⟨t4, g8, h⟩ := bindN h
     let C8 := mkCon (spec_l10Cells.ok k a0 a1 t4 g8) spec_l10Cells.go
     by_cases c9 : t4 = true
     ·replace h := ip c9 h
      obtain ⟨t5, g10, h⟩ := bindN h
      let C10 := mkCon (spec_l10Cells.ok k a0 a2 t5 g10) spec_l10Cells.go
      by_cases c11 : t5 = true
      ·replace h := ip c11 h
       obtain ⟨t6, g12, h⟩ := bindN h
       let C12 := mkCon (spec_FreeCells.ok k a0 t6 g12) spec_FreeCells.go
       cases h
       exact rt func77 [.call C1, .dec 12 false, .call C3, .dec 18 false, .dec 25 false, .call C6, .b false, .call C8, .dec 33 true, .call C10, .dec 38 true, .call C12, .fin] (oc C1 (o1 (bnf c2) (oc C3 (o1 (bnf c4) (oF c5 (oc C6 (o1 (bnf c7) (oc C8 (o1 c9 (oc C10 (o1 c11 (oc C12 on))))))))))))
      ·replace h := iq c11 h
       cases h
       exact rt func77 [.call C1, .dec 12 false, .call C3, .dec 18 false, .dec 25 false, .call C6, .b false, .call C8, .dec 33 true, .call C10, .dec 38 false, .fin] (oc C1 (o1 (bnf c2) (oc C3 (o1 (bnf c4) (oF c5 (oc C6 (o1 (bnf c7) (oc C8 (o1 c9 (oc C10 (o1 (eqf c11) on)))))))))))
     ·replace h := iq c9 h
      cases h
      exact rt func77 [.call C1, .dec 12 false, .call C3, .dec 18 false, .dec 25 false, .call C6, .b false, .call C8, .dec 33 false, .fin] (oc C1 (o1 (bnf c2) (oc C3 (o1 (bnf c4) (oF c5 (oc C6 (o1 (bnf c7) (oc C8 (o1 (eqf c9) on)))))))))
    ·replace h := iq c7 h
     cases h
     exact rt func77 [.call C1, .dec 12 false, .call C3, .dec 18 false, .dec 25 false, .call C6, .b true, .fin] (oc C1 (o1 (bnf c2) (oc C3 (o1 (bnf c4) (oF c5 (oc C6 (oN c7 on)))))))
  ·replace h := iq c4 h
   cases h
   exact rt func77 [.call C1, .dec 12 false, .call C3, .dec 18 true, .b true, .fin] (oc C1 (o1 (bnf c2) (oc C3 (oN c4 (oR on)))))
 ·replace h := iq c2 h
  cases h
  exact rt func77 [.call C1, .dec 12 true, .b true, .fin] (oc C1 (oN c2 (oR on)))
def spec_l12Form.h0T (a0 : List Int) (v1 : Int) (a1 : S32) : List (Nat × AV) := [(0, .t (.c (.p false (R 1 (eI .i64) 0 a0)))), (3, .ptr 192 0), (5, .t (.c (.p true (iI v1))))]
def spec_l12Form.h0H (a0 : List Int) (v1 : Int) (a1 : S32) : List (Nat × Content) := [(192, .box 32 [.p false (iI a1.f0), .p false (iI a1.f1), .p false (R 1 e53 z53 a1.f2)])]
def spec_l12Form.l0 : Nat → List Int → S32 → Int → Option Bool
 | 0, _, _, _ => none
 | kq + 1, a0, a1, v1 => if v1 < (a0.length : Int) then (if 0 ≤ v1 then (if v1 < (a1.f2.length : Int) then (if (((rdD z53 a1.f2 v1).f0).length : Int) = (w64 (a1.f0 + 1)) then (if 0 < (((rdD z53 a1.f2 v1).f0).length : Int) then (if (rdD 0 ((rdD z53 a1.f2 v1).f0) 0) = (rdD 0 a0 v1) then (spec_l12Form.l0 kq a0 a1 (w64 (v1 + 1))) else (some false)) else none) else (some false)) else none) else none) else (some true)
def spec_l12Form.f (k : Nat) (a0 : List Int) (a1 : S32) : Option Bool := if (a1.f2.length : Int) = (a0.length : Int) then (spec_l12Form.l0 k a0 a1 0) else (some false)
theorem spec_l12Form.go : Callable prog 78 := ⟨_, func78, by kernel_rfl, rfl⟩
theorem spec_l12Form.ok (k : Nat) (a0 : List Int) (a1 : S32) (r : Bool) (h : spec_l12Form.f k a0 a1 = some r) : VCalls prog 78 [.c (R 1 (eI .i64) 0 a0), .agg (e32 a1)] [.c (.p (.sc (.bool r)))] := by
 unfold spec_l12Form.f at h
 refine VCalls.of (fn := f78) (N := 44) func78 rfl rfl (fun w0 => ?_)
 by_cases c1 : (a1.f2.length : Int) = (a0.length : Int)
 ·replace h := ip c1 h
  have H0 : ∀ (kq : Nat) (v1 : Int), spec_l12Form.l0 kq a0 a1 v1 = some r → AG prog 78 44 [.c (.p (.sc (.bool r)))] w0 (headStk (codeOf f78) 0) (mkFS (spec_l12Form.h0T a0 v1 a1) (spec_l12Form.h0H a0 v1 a1)) := by
   intro kq
   induction kq with
   | zero => intro v1 h; cases h
   | succ kq ih =>
     intro v1 h
     rw [spec_l12Form.l0] at h
     by_cases c7 : v1 < (a0.length : Int)
     ·replace h := ip c7 h
      obtain ⟨c8, h⟩ := ifN h
      obtain ⟨c9, h⟩ := ifN h
      by_cases c10 : (((rdD z53 a1.f2 v1).f0).length : Int) = (w64 (a1.f0 + 1))
      ·replace h := ip c10 h
       obtain ⟨c11, h⟩ := ifN h
       by_cases c12 : (rdD 0 ((rdD z53 a1.f2 v1).f0) 0) = (rdD 0 a0 v1)
       ·replace h := ip c12 h
        exact hd func78 [.b true, .dec 29 false, .b false, .fin] (oT c7 (o1 c8 (o1 c9 (o1 (bnf (decide_eq_true c10)) (o1 c8 (o1 c9 (o1 (by decide : (0 : Int) ≤ 0) (o1 c11 (o1 c8 (o1 c7 (o1 (bnf (decide_eq_true c12)) on))))))))))) (ih (w64 (v1 + 1)) h)
       ·replace h := iq c12 h
        cases h
        exact rt func78 [.b true, .dec 29 false, .b true, .fin] (oT c7 (o1 c8 (o1 c9 (o1 (bnf (decide_eq_true c10)) (o1 c8 (o1 c9 (o1 (by decide : (0 : Int) ≤ 0) (o1 c11 (o1 c8 (o1 c7 (o1 (bnt (decide_eq_false c12)) on)))))))))))
      ·replace h := iq c10 h
       cases h
       exact rt func78 [.b true, .dec 29 true, .b true, .fin] (oT c7 (o1 c8 (o1 c9 (o1 (bnt (decide_eq_false c10)) (oR on)))))
     ·replace h := iq c7 h
      cases h
      exact rt func78 [.b false, .fin, .fin] (oF c7 on)
  exact hd func78 [.b false, .fin] (o1 (bnf (decide_eq_true c1)) on) (H0 k 0 h)
 ·replace h := iq c1 h
  cases h
  exact rt func78 [.b true, .fin] (o1 (bnt (decide_eq_false c1)) on)
def spec_LevelWays.h0T (a0 : List S53) (v2 : Int) : List (Nat × AV) := [(0, .t (.c (.p false (R 1 e53 z53 a0)))), (5, .t (.c (.p true (iI v2))))]
def spec_LevelWays.h0H (a0 : List S53) (v2 : Int) : List (Nat × Content) := []
def spec_LevelWays.l0 : Nat → List S53 → Int → Option Bool
 | 0, _, _ => none
 | kq + 1, a0, v2 => if v2 < (a0.length : Int) then (if 0 ≤ v2 then (if (((rdD z53 a0 v2).f0).length : Int) = (((rdD z53 a0 0).f0).length : Int) then (spec_LevelWays.l0 kq a0 (w64 (v2 + 1))) else (some false)) else none) else (some true)
def spec_LevelWays.f (k : Nat) (a0 : List S53) (a1 : Int) : Option Bool := (spec_l01In.f (a0.length : Int) 1 10).bind fun t1 => if t1 = true then (if a1 < 0 then (some false) else (if 0 < (a0.length : Int) then (if (w64 ((((rdD z53 a0 0).f0).length : Int) - 1)) ≤ a1 then (some false) else (spec_LevelWays.l0 k a0 0)) else none)) else (some false)
theorem spec_LevelWays.go : Callable prog 119 := ⟨_, func119, by kernel_rfl, rfl⟩
theorem spec_LevelWays.ok (k : Nat) (a0 : List S53) (a1 : Int) (r : Bool) (h : spec_LevelWays.f k a0 a1 = some r) : VCalls prog 119 [.c (R 1 e53 z53 a0), .c (iI a1)] [.c (.p (.sc (.bool r)))] := by
 unfold spec_LevelWays.f at h
 refine VCalls.of (fn := f119) (N := 42) func119 rfl rfl (fun w0 => ?_)
 obtain ⟨t1, g1, h⟩ := bindN h
 let C1 := mkCon (spec_l01In.ok (a0.length : Int) 1 10 t1 g1) spec_l01In.go
 by_cases c2 : t1 = true
 ·replace h := ip c2 h
  by_cases c3 : a1 < 0
  ·replace h := ip c3 h
   cases h
   exact rt func119 [.call C1, .dec 10 false, .dec 14 true, .b true, .fin] (oc C1 (o1 (bnf c2) (oT c3 (oR on))))
  ·replace h := iq c3 h
   obtain ⟨c4, h⟩ := ifN h
   by_cases c5 : (w64 ((((rdD z53 a0 0).f0).length : Int) - 1)) ≤ a1
   ·replace h := ip c5 h
    cases h
    exact rt func119 [.call C1, .dec 10 false, .dec 14 false, .b true, .fin] (oc C1 (o1 (bnf c2) (oF c3 (o1 (by decide : (0 : Int) ≤ 0) (o1 c4 (oT c5 on))))))
   ·replace h := iq c5 h
    have H0 : ∀ (kq : Nat) (v2 : Int), spec_LevelWays.l0 kq a0 v2 = some r → AG prog 119 42 [.c (.p (.sc (.bool r)))] w0 (headStk (codeOf f119) 0) (mkFS (spec_LevelWays.h0T a0 v2) (spec_LevelWays.h0H a0 v2)) := by
     intro kq
     induction kq with
     | zero => intro v2 h; cases h
     | succ kq ih =>
       intro v2 h
       rw [spec_LevelWays.l0] at h
       by_cases c7 : v2 < (a0.length : Int)
       ·replace h := ip c7 h
        obtain ⟨c8, h⟩ := ifN h
        by_cases c9 : (((rdD z53 a0 v2).f0).length : Int) = (((rdD z53 a0 0).f0).length : Int)
        ·replace h := ip c9 h
         exact hd func119 [.b true, .b false, .fin] (oT c7 (o1 c8 (o1 c7 (o1 (by decide : (0 : Int) ≤ 0) (o1 c4 (o1 (bnf (decide_eq_true c9)) on)))))) (ih (w64 (v2 + 1)) h)
        ·replace h := iq c9 h
         cases h
         exact rt func119 [.b true, .b true, .fin] (oT c7 (o1 c8 (o1 c7 (o1 (by decide : (0 : Int) ≤ 0) (o1 c4 (o1 (bnt (decide_eq_false c9)) on))))))
       ·replace h := iq c7 h
        cases h
        exact rt func119 [.b false, .fin, .fin] (oF c7 on)
    exact hd func119 [.call C1, .dec 10 false, .dec 14 false, .b false, .fin] (oc C1 (o1 (bnf c2) (oF c3 (o1 (by decide : (0 : Int) ≤ 0) (o1 c4 (oF c5 on)))))) (H0 k 0 h)
 ·replace h := iq c2 h
  cases h
  exact rt func119 [.call C1, .dec 10 true, .b true, .fin] (oc C1 (oN c2 (oR on)))
end Go.Proofs.YtfhjipfkaemapaaGreat.V