/- What each Go function computes, and that the machine does so: printed by a program of this session (avgen.py). -/
import Derived.Test.YtoaknaceaghclaaGreatV0
namespace Go.Proofs.YtoaknaceaghclaaGreat.V
open Go Go.Av Go.Proofs Go.Proofs.Tryz
set_option linter.unusedVariables false
set_option maxRecDepth 100000
/-! ### spec_l11Sorted: function 132 -/
def spec_l11Sorted.h0T (v7 : Int) (v8 : Int) (t1 : List Int) (t2 : List Int) (v6 : List Int) : List (Nat × AV) := [(3, .t (.c (.h 1280))), (4, .t (.c (.h 1664))), (5, .t (.c (.h 1728))), (6, .t (.c (.p true (iI v7)))), (7, .t (.c (.p true (iI v8))))]
def spec_l11Sorted.h0H (v7 : Int) (v8 : Int) (t1 : List Int) (t2 : List Int) (v6 : List Int) : List (Nat × Content) := [(1280, .row 3 1 t1.length (fun j => (eI .i64) (t1.getD j 0)) true), (1664, .row 3 1 t2.length (fun j => (eI .i64) (t2.getD j 0)) true), (1728, .row 3 1 v6.length (fun j => (eI .i64) (v6.getD j 0)) true)]
def spec_l11Sorted.l0 : Nat → List Int → List Int → List Int → Int → Int → Option (List Int)
  | 0, _, _, _, _, _ => none
  | kq + 1, t1, t2, v6, v7, v8 => if v7 < (t1.length : Int) then (if (t2.length : Int) ≤ v8 then (if 0 ≤ v7 then (if (v6.length : Int) = 0 then (if (v6.length + 1) * 8 ≤ 140737488355328 then (spec_l11Sorted.l0 kq t1 t2 (v6 ++ [(rdD 0 t1 v7)]) (w64 (v7 + 1)) v8) else none) else (if 0 ≤ (w64 ((v6.length : Int) - 1)) then (if (w64 ((v6.length : Int) - 1)) < (v6.length : Int) then (if (rdD 0 v6 (w64 ((v6.length : Int) - 1))) = (rdD 0 t1 v7) then (spec_l11Sorted.l0 kq t1 t2 v6 (w64 (v7 + 1)) v8) else (if (v6.length + 1) * 8 ≤ 140737488355328 then (spec_l11Sorted.l0 kq t1 t2 (v6 ++ [(rdD 0 t1 v7)]) (w64 (v7 + 1)) v8) else none)) else none) else none)) else none) else (if 0 ≤ v7 then (if 0 ≤ v8 then (if v8 < (t2.length : Int) then (if (rdD 0 t1 v7) ≤ (rdD 0 t2 v8) then (if (v6.length : Int) = 0 then (if (v6.length + 1) * 8 ≤ 140737488355328 then (spec_l11Sorted.l0 kq t1 t2 (v6 ++ [(rdD 0 t1 v7)]) (w64 (v7 + 1)) v8) else none) else (if 0 ≤ (w64 ((v6.length : Int) - 1)) then (if (w64 ((v6.length : Int) - 1)) < (v6.length : Int) then (if (rdD 0 v6 (w64 ((v6.length : Int) - 1))) = (rdD 0 t1 v7) then (spec_l11Sorted.l0 kq t1 t2 v6 (w64 (v7 + 1)) v8) else (if (v6.length + 1) * 8 ≤ 140737488355328 then (spec_l11Sorted.l0 kq t1 t2 (v6 ++ [(rdD 0 t1 v7)]) (w64 (v7 + 1)) v8) else none)) else none) else none)) else (if (v6.length : Int) = 0 then (if (v6.length + 1) * 8 ≤ 140737488355328 then (spec_l11Sorted.l0 kq t1 t2 (v6 ++ [(rdD 0 t2 v8)]) v7 (w64 (v8 + 1))) else none) else (if 0 ≤ (w64 ((v6.length : Int) - 1)) then (if (w64 ((v6.length : Int) - 1)) < (v6.length : Int) then (if (rdD 0 v6 (w64 ((v6.length : Int) - 1))) = (rdD 0 t2 v8) then (spec_l11Sorted.l0 kq t1 t2 v6 v7 (w64 (v8 + 1))) else (if (v6.length + 1) * 8 ≤ 140737488355328 then (spec_l11Sorted.l0 kq t1 t2 (v6 ++ [(rdD 0 t2 v8)]) v7 (w64 (v8 + 1))) else none)) else none) else none))) else none) else none) else none)) else (if v8 < (t2.length : Int) then (if (t2.length : Int) ≤ v8 then (if 0 ≤ v7 then (if v7 < (t1.length : Int) then (if (v6.length : Int) = 0 then (if (v6.length + 1) * 8 ≤ 140737488355328 then (spec_l11Sorted.l0 kq t1 t2 (v6 ++ [(rdD 0 t1 v7)]) (w64 (v7 + 1)) v8) else none) else (if 0 ≤ (w64 ((v6.length : Int) - 1)) then (if (w64 ((v6.length : Int) - 1)) < (v6.length : Int) then (if (rdD 0 v6 (w64 ((v6.length : Int) - 1))) = (rdD 0 t1 v7) then (spec_l11Sorted.l0 kq t1 t2 v6 (w64 (v7 + 1)) v8) else (if (v6.length + 1) * 8 ≤ 140737488355328 then (spec_l11Sorted.l0 kq t1 t2 (v6 ++ [(rdD 0 t1 v7)]) (w64 (v7 + 1)) v8) else none)) else none) else none)) else none) else none) else (if 0 ≤ v8 then (if (v6.length : Int) = 0 then (if (v6.length + 1) * 8 ≤ 140737488355328 then (spec_l11Sorted.l0 kq t1 t2 (v6 ++ [(rdD 0 t2 v8)]) v7 (w64 (v8 + 1))) else none) else (if 0 ≤ (w64 ((v6.length : Int) - 1)) then (if (w64 ((v6.length : Int) - 1)) < (v6.length : Int) then (if (rdD 0 v6 (w64 ((v6.length : Int) - 1))) = (rdD 0 t2 v8) then (spec_l11Sorted.l0 kq t1 t2 v6 v7 (w64 (v8 + 1))) else (if (v6.length + 1) * 8 ≤ 140737488355328 then (spec_l11Sorted.l0 kq t1 t2 (v6 ++ [(rdD 0 t2 v8)]) v7 (w64 (v8 + 1))) else none)) else none) else none)) else none)) else (some v6))
def spec_l11Sorted.f : Nat → (List Int) → Option (List Int)
  | 0, _ => none
  | k + 1, a0 => if (a0.length : Int) < 2 then (if (([] : List Int).length + a0.length) * 8 ≤ 140737488355328 then (some (([] : List Int) ++ a0)) else none) else (if 0 ≤ (w64 ((a0.length : Int).tdiv 2)) then (if (w64 ((a0.length : Int).tdiv 2)) ≤ (a0.length : Int) then ((spec_l11Sorted.f k ((a0.drop (0 : Int).toNat).take ((w64 ((a0.length : Int).tdiv 2)).toNat - (0 : Int).toNat))).bind fun t1 => (spec_l11Sorted.f k ((a0.drop (w64 ((a0.length : Int).tdiv 2)).toNat).take ((a0.length : Int).toNat - (w64 ((a0.length : Int).tdiv 2)).toNat))).bind fun t2 => spec_l11Sorted.l0 k t1 t2 ([] : List Int) 0 0) else none) else none)
theorem spec_l11Sorted.go : Callable prog 132 := ⟨_, func132, by kernel_rfl, rfl⟩
theorem spec_l11Sorted.ok (k : Nat) (a0 : List Int) (r : (List Int)) (h : spec_l11Sorted.f k a0 = some r) : VCalls prog 132 [.c (R 1 (eI .i64) 0 a0)] [.c (.own 3 1 r.length (fun j => (eI .i64) (r.getD j 0)))] := by
  induction k generalizing r a0 with
  | zero => cases h
  | succ k ihk =>
    have ihf := fun a0 r h => ihk a0 r h
    rw [spec_l11Sorted.f] at h
    refine VCalls.of (fn := f132) (N := 89) func132 rfl rfl (fun w0 => ?_)
    by_cases c1 : (a0.length : Int) < 2
    · replace h := ip c1 h
      obtain ⟨c2, h⟩ := ifN h
      cases h
      exact rt func132 [.b true, rowe 12 (eI .i64) 0 ([] : List Int), .aft 14, orow 768 (eI .i64) 0 (([] : List Int) ++ a0), .fin, .flat 768] (oT c1 (o1 (GE.lit 1 (eI .i64) 0 ([] : List Int) (by intro x; rfl)) (o1 c2 (o1 (GE.app (e := (eI .i64)) (d := 0) ([] : List Int) a0 rfl (fun _ _ => CE.refl _) rfl) (o1 (SC.of (e := (eI .i64)) (d := 0) (([] : List Int) ++ a0) (by intro x; rfl)) on)))))
    · replace h := iq c1 h
      obtain ⟨c3, h⟩ := ifN h
      obtain ⟨c4, h⟩ := ifN h
      obtain ⟨t1, g5, h⟩ := bindN h
      let C5 := mkCon (ihf ((a0.drop (0 : Int).toNat).take ((w64 ((a0.length : Int).tdiv 2)).toNat - (0 : Int).toNat)) t1 g5) spec_l11Sorted.go
      obtain ⟨t2, g6, h⟩ := bindN h
      let C6 := mkCon (ihf ((a0.drop (w64 ((a0.length : Int).tdiv 2)).toNat).take ((a0.length : Int).toNat - (w64 ((a0.length : Int).tdiv 2)).toNat)) t2 g6) spec_l11Sorted.go
      have H0 : ∀ (kq : Nat) (v6 : List Int) (v7 : Int) (v8 : Int), spec_l11Sorted.l0 kq t1 t2 v6 v7 v8 = some r → AG prog 132 89 [.c (.own 3 1 r.length (fun j => (eI .i64) (r.getD j 0)))] w0 (headStk (codeOf f132) 0) (mkFS (spec_l11Sorted.h0T v7 v8 t1 t2 v6) (spec_l11Sorted.h0H v7 v8 t1 t2 v6)) := by
        intro kq
        induction kq with
        | zero => intro v6 v7 v8 h; cases h
        | succ kq ih =>
          intro v6 v7 v8 h
          rw [spec_l11Sorted.l0] at h
          by_cases c36 : v7 < (t1.length : Int)
          · replace h := ip c36 h
            by_cases c37 : (t2.length : Int) ≤ v8
            · replace h := ip c37 h
              obtain ⟨c38, h⟩ := ifN h
              by_cases c39 : (v6.length : Int) = 0
              · replace h := ip c39 h
                obtain ⟨c40, h⟩ := ifN h
                exact hd func132 [.dec 32 true, .b true, .dec 42 true, .b true, .dec 74 true, .b true, rowe 86 (eI .i64) 0 ([(rdD 0 t1 v7)]), .aft 87, orow 1728 (eI .i64) 0 (v6 ++ [(rdD 0 t1 v7)]), .fin] (oT c36 (oR (oT c37 (oR (o1 c38 (o1 c36 (oT c39 (oR (o1 (GE.lit 1 (eI .i64) 0 [(rdD 0 t1 v7)] (by intro x; rfl)) (o1 c40 (o1 (GE.app (e := (eI .i64)) (d := 0) v6 ([(rdD 0 t1 v7)]) rfl (fun _ _ => CE.refl _) rfl) on))))))))))) (ih (v6 ++ [(rdD 0 t1 v7)]) (w64 (v7 + 1)) v8 h)
              · replace h := iq c39 h
                obtain ⟨c41, h⟩ := ifN h
                obtain ⟨c42, h⟩ := ifN h
                by_cases c43 : (rdD 0 v6 (w64 ((v6.length : Int) - 1))) = (rdD 0 t1 v7)
                · replace h := ip c43 h
                  exact hd func132 [.dec 32 true, .b true, .dec 42 true, .b true, .dec 74 false, .b false, .fin] (oT c36 (oR (oT c37 (oR (o1 c38 (o1 c36 (oF c39 (o1 c41 (o1 c42 (o1 (bnf (decide_eq_true c43)) on)))))))))) (ih v6 (w64 (v7 + 1)) v8 h)
                · replace h := iq c43 h
                  obtain ⟨c44, h⟩ := ifN h
                  exact hd func132 [.dec 32 true, .b true, .dec 42 true, .b true, .dec 74 false, .b true, rowe 86 (eI .i64) 0 ([(rdD 0 t1 v7)]), .aft 87, orow 1728 (eI .i64) 0 (v6 ++ [(rdD 0 t1 v7)]), .fin] (oT c36 (oR (oT c37 (oR (o1 c38 (o1 c36 (oF c39 (o1 c41 (o1 c42 (o1 (bnt (decide_eq_false c43)) (o1 (GE.lit 1 (eI .i64) 0 [(rdD 0 t1 v7)] (by intro x; rfl)) (o1 c44 (o1 (GE.app (e := (eI .i64)) (d := 0) v6 ([(rdD 0 t1 v7)]) rfl (fun _ _ => CE.refl _) rfl) on))))))))))))) (ih (v6 ++ [(rdD 0 t1 v7)]) (w64 (v7 + 1)) v8 h)
            · replace h := iq c37 h
              obtain ⟨c45, h⟩ := ifN h
              obtain ⟨c46, h⟩ := ifN h
              obtain ⟨c47, h⟩ := ifN h
              by_cases c48 : (rdD 0 t1 v7) ≤ (rdD 0 t2 v8)
              · replace h := ip c48 h
                by_cases c49 : (v6.length : Int) = 0
                · replace h := ip c49 h
                  obtain ⟨c50, h⟩ := ifN h
                  exact hd func132 [.dec 32 true, .b true, .dec 42 false, .dec 47 true, .b true, .dec 74 true, .b true, rowe 86 (eI .i64) 0 ([(rdD 0 t1 v7)]), .aft 87, orow 1728 (eI .i64) 0 (v6 ++ [(rdD 0 t1 v7)]), .fin] (oT c36 (oR (oF c37 (oT c36 (o1 c45 (o1 c36 (o1 c46 (o1 c47 (oT c48 (o1 c45 (o1 c36 (oT c49 (oR (o1 (GE.lit 1 (eI .i64) 0 [(rdD 0 t1 v7)] (by intro x; rfl)) (o1 c50 (o1 (GE.app (e := (eI .i64)) (d := 0) v6 ([(rdD 0 t1 v7)]) rfl (fun _ _ => CE.refl _) rfl) on)))))))))))))))) (ih (v6 ++ [(rdD 0 t1 v7)]) (w64 (v7 + 1)) v8 h)
                · replace h := iq c49 h
                  obtain ⟨c51, h⟩ := ifN h
                  obtain ⟨c52, h⟩ := ifN h
                  by_cases c53 : (rdD 0 v6 (w64 ((v6.length : Int) - 1))) = (rdD 0 t1 v7)
                  · replace h := ip c53 h
                    exact hd func132 [.dec 32 true, .b true, .dec 42 false, .dec 47 true, .b true, .dec 74 false, .b false, .fin] (oT c36 (oR (oF c37 (oT c36 (o1 c45 (o1 c36 (o1 c46 (o1 c47 (oT c48 (o1 c45 (o1 c36 (oF c49 (o1 c51 (o1 c52 (o1 (bnf (decide_eq_true c53)) on))))))))))))))) (ih v6 (w64 (v7 + 1)) v8 h)
                  · replace h := iq c53 h
                    obtain ⟨c54, h⟩ := ifN h
                    exact hd func132 [.dec 32 true, .b true, .dec 42 false, .dec 47 true, .b true, .dec 74 false, .b true, rowe 86 (eI .i64) 0 ([(rdD 0 t1 v7)]), .aft 87, orow 1728 (eI .i64) 0 (v6 ++ [(rdD 0 t1 v7)]), .fin] (oT c36 (oR (oF c37 (oT c36 (o1 c45 (o1 c36 (o1 c46 (o1 c47 (oT c48 (o1 c45 (o1 c36 (oF c49 (o1 c51 (o1 c52 (o1 (bnt (decide_eq_false c53)) (o1 (GE.lit 1 (eI .i64) 0 [(rdD 0 t1 v7)] (by intro x; rfl)) (o1 c54 (o1 (GE.app (e := (eI .i64)) (d := 0) v6 ([(rdD 0 t1 v7)]) rfl (fun _ _ => CE.refl _) rfl) on)))))))))))))))))) (ih (v6 ++ [(rdD 0 t1 v7)]) (w64 (v7 + 1)) v8 h)
              · replace h := iq c48 h
                by_cases c55 : (v6.length : Int) = 0
                · replace h := ip c55 h
                  obtain ⟨c56, h⟩ := ifN h
                  exact hd func132 [.dec 32 true, .b true, .dec 42 false, .dec 47 true, .b false, .dec 74 true, .b true, rowe 86 (eI .i64) 0 ([(rdD 0 t2 v8)]), .aft 87, orow 1728 (eI .i64) 0 (v6 ++ [(rdD 0 t2 v8)]), .fin] (oT c36 (oR (oF c37 (oT c36 (o1 c45 (o1 c36 (o1 c46 (o1 c47 (oF c48 (o1 c46 (o1 c47 (oT c55 (oR (o1 (GE.lit 1 (eI .i64) 0 [(rdD 0 t2 v8)] (by intro x; rfl)) (o1 c56 (o1 (GE.app (e := (eI .i64)) (d := 0) v6 ([(rdD 0 t2 v8)]) rfl (fun _ _ => CE.refl _) rfl) on)))))))))))))))) (ih (v6 ++ [(rdD 0 t2 v8)]) v7 (w64 (v8 + 1)) h)
                · replace h := iq c55 h
                  obtain ⟨c57, h⟩ := ifN h
                  obtain ⟨c58, h⟩ := ifN h
                  by_cases c59 : (rdD 0 v6 (w64 ((v6.length : Int) - 1))) = (rdD 0 t2 v8)
                  · replace h := ip c59 h
                    exact hd func132 [.dec 32 true, .b true, .dec 42 false, .dec 47 true, .b false, .dec 74 false, .b false, .fin] (oT c36 (oR (oF c37 (oT c36 (o1 c45 (o1 c36 (o1 c46 (o1 c47 (oF c48 (o1 c46 (o1 c47 (oF c55 (o1 c57 (o1 c58 (o1 (bnf (decide_eq_true c59)) on))))))))))))))) (ih v6 v7 (w64 (v8 + 1)) h)
                  · replace h := iq c59 h
                    obtain ⟨c60, h⟩ := ifN h
                    exact hd func132 [.dec 32 true, .b true, .dec 42 false, .dec 47 true, .b false, .dec 74 false, .b true, rowe 86 (eI .i64) 0 ([(rdD 0 t2 v8)]), .aft 87, orow 1728 (eI .i64) 0 (v6 ++ [(rdD 0 t2 v8)]), .fin] (oT c36 (oR (oF c37 (oT c36 (o1 c45 (o1 c36 (o1 c46 (o1 c47 (oF c48 (o1 c46 (o1 c47 (oF c55 (o1 c57 (o1 c58 (o1 (bnt (decide_eq_false c59)) (o1 (GE.lit 1 (eI .i64) 0 [(rdD 0 t2 v8)] (by intro x; rfl)) (o1 c60 (o1 (GE.app (e := (eI .i64)) (d := 0) v6 ([(rdD 0 t2 v8)]) rfl (fun _ _ => CE.refl _) rfl) on)))))))))))))))))) (ih (v6 ++ [(rdD 0 t2 v8)]) v7 (w64 (v8 + 1)) h)
          · replace h := iq c36 h
            by_cases c61 : v8 < (t2.length : Int)
            · replace h := ip c61 h
              by_cases c62 : (t2.length : Int) ≤ v8
              · replace h := ip c62 h
                obtain ⟨c63, h⟩ := ifN h
                obtain ⟨c64, h⟩ := ifN h
                by_cases c65 : (v6.length : Int) = 0
                · replace h := ip c65 h
                  obtain ⟨c66, h⟩ := ifN h
                  exact hd func132 [.dec 32 false, .b true, .dec 42 true, .b true, .dec 74 true, .b true, rowe 86 (eI .i64) 0 ([(rdD 0 t1 v7)]), .aft 87, orow 1728 (eI .i64) 0 (v6 ++ [(rdD 0 t1 v7)]), .fin] (oF c36 (oT c61 (oT c62 (oR (o1 c63 (o1 c64 (oT c65 (oR (o1 (GE.lit 1 (eI .i64) 0 [(rdD 0 t1 v7)] (by intro x; rfl)) (o1 c66 (o1 (GE.app (e := (eI .i64)) (d := 0) v6 ([(rdD 0 t1 v7)]) rfl (fun _ _ => CE.refl _) rfl) on))))))))))) (ih (v6 ++ [(rdD 0 t1 v7)]) (w64 (v7 + 1)) v8 h)
                · replace h := iq c65 h
                  obtain ⟨c67, h⟩ := ifN h
                  obtain ⟨c68, h⟩ := ifN h
                  by_cases c69 : (rdD 0 v6 (w64 ((v6.length : Int) - 1))) = (rdD 0 t1 v7)
                  · replace h := ip c69 h
                    exact hd func132 [.dec 32 false, .b true, .dec 42 true, .b true, .dec 74 false, .b false, .fin] (oF c36 (oT c61 (oT c62 (oR (o1 c63 (o1 c64 (oF c65 (o1 c67 (o1 c68 (o1 (bnf (decide_eq_true c69)) on)))))))))) (ih v6 (w64 (v7 + 1)) v8 h)
                  · replace h := iq c69 h
                    obtain ⟨c70, h⟩ := ifN h
                    exact hd func132 [.dec 32 false, .b true, .dec 42 true, .b true, .dec 74 false, .b true, rowe 86 (eI .i64) 0 ([(rdD 0 t1 v7)]), .aft 87, orow 1728 (eI .i64) 0 (v6 ++ [(rdD 0 t1 v7)]), .fin] (oF c36 (oT c61 (oT c62 (oR (o1 c63 (o1 c64 (oF c65 (o1 c67 (o1 c68 (o1 (bnt (decide_eq_false c69)) (o1 (GE.lit 1 (eI .i64) 0 [(rdD 0 t1 v7)] (by intro x; rfl)) (o1 c70 (o1 (GE.app (e := (eI .i64)) (d := 0) v6 ([(rdD 0 t1 v7)]) rfl (fun _ _ => CE.refl _) rfl) on))))))))))))) (ih (v6 ++ [(rdD 0 t1 v7)]) (w64 (v7 + 1)) v8 h)
              · replace h := iq c62 h
                obtain ⟨c71, h⟩ := ifN h
                by_cases c72 : (v6.length : Int) = 0
                · replace h := ip c72 h
                  obtain ⟨c73, h⟩ := ifN h
                  exact hd func132 [.dec 32 false, .b true, .dec 42 false, .dec 47 false, .b false, .dec 74 true, .b true, rowe 86 (eI .i64) 0 ([(rdD 0 t2 v8)]), .aft 87, orow 1728 (eI .i64) 0 (v6 ++ [(rdD 0 t2 v8)]), .fin] (oF c36 (oT c61 (oF c62 (oF c36 (o1 (rfl : false = false) (o1 c71 (o1 c61 (oT c72 (oR (o1 (GE.lit 1 (eI .i64) 0 [(rdD 0 t2 v8)] (by intro x; rfl)) (o1 c73 (o1 (GE.app (e := (eI .i64)) (d := 0) v6 ([(rdD 0 t2 v8)]) rfl (fun _ _ => CE.refl _) rfl) on)))))))))))) (ih (v6 ++ [(rdD 0 t2 v8)]) v7 (w64 (v8 + 1)) h)
                · replace h := iq c72 h
                  obtain ⟨c74, h⟩ := ifN h
                  obtain ⟨c75, h⟩ := ifN h
                  by_cases c76 : (rdD 0 v6 (w64 ((v6.length : Int) - 1))) = (rdD 0 t2 v8)
                  · replace h := ip c76 h
                    exact hd func132 [.dec 32 false, .b true, .dec 42 false, .dec 47 false, .b false, .dec 74 false, .b false, .fin] (oF c36 (oT c61 (oF c62 (oF c36 (o1 (rfl : false = false) (o1 c71 (o1 c61 (oF c72 (o1 c74 (o1 c75 (o1 (bnf (decide_eq_true c76)) on))))))))))) (ih v6 v7 (w64 (v8 + 1)) h)
                  · replace h := iq c76 h
                    obtain ⟨c77, h⟩ := ifN h
                    exact hd func132 [.dec 32 false, .b true, .dec 42 false, .dec 47 false, .b false, .dec 74 false, .b true, rowe 86 (eI .i64) 0 ([(rdD 0 t2 v8)]), .aft 87, orow 1728 (eI .i64) 0 (v6 ++ [(rdD 0 t2 v8)]), .fin] (oF c36 (oT c61 (oF c62 (oF c36 (o1 (rfl : false = false) (o1 c71 (o1 c61 (oF c72 (o1 c74 (o1 c75 (o1 (bnt (decide_eq_false c76)) (o1 (GE.lit 1 (eI .i64) 0 [(rdD 0 t2 v8)] (by intro x; rfl)) (o1 c77 (o1 (GE.app (e := (eI .i64)) (d := 0) v6 ([(rdD 0 t2 v8)]) rfl (fun _ _ => CE.refl _) rfl) on)))))))))))))) (ih (v6 ++ [(rdD 0 t2 v8)]) v7 (w64 (v8 + 1)) h)
            · replace h := iq c61 h
              cases h
              exact rt func132 [.dec 32 false, .b false, .fin, .fin] (oF c36 (oF c61 on))
      exact hd func132 [.b false, .cst 19 (R 1 (eI .i64) 0 ((a0.drop (0 : Int).toNat).take ((w64 ((a0.length : Int).tdiv 2)).toNat - (0 : Int).toNat))), .call C5, .cst 25 (R 1 (eI .i64) 0 ((a0.drop (w64 ((a0.length : Int).tdiv 2)).toNat).take ((a0.length : Int).toNat - (w64 ((a0.length : Int).tdiv 2)).toNat))), .call C6, rowe 27 (eI .i64) 0 ([] : List Int), .fin] (oF c1 (o1 (by decide : (2 : Int) ≠ 0) (o1 (by decide : (0 : Int) ≤ 0) (o1 c3 (o1 c4 (o1 (VE.cut (z := 1) (e := (eI .i64)) (d := 0) a0 (n := a0.length) (lo := 0) (hi := (w64 ((a0.length : Int).tdiv 2))) rfl (by decide : (0 : Int) ≤ 0) c3 c4) (oc C5 (o1 (by decide : (2 : Int) ≠ 0) (o1 c3 (o1 c4 (o1 (Int.le_refl (a0.length : Int)) (o1 (VE.cut (z := 1) (e := (eI .i64)) (d := 0) a0 (n := a0.length) (lo := (w64 ((a0.length : Int).tdiv 2))) (hi := (a0.length : Int)) rfl c3 c4 (Int.le_refl (a0.length : Int))) (oc C6 (o1 (GE.lit 1 (eI .i64) 0 ([] : List Int) (by intro x; rfl)) on)))))))))))))) (H0 k ([] : List Int) 0 0 h)

/-! ### spec_CellsUsed: function 149 -/
def spec_CellsUsed.h0T (a0 : List S72) (v3 : Int) (v2 : List Int) : List (Nat × AV) := [(0, .t (.c (.p false (R 1 e72 z72 a0)))), (3, .t (.c (.h 320))), (4, .t (.c (.p true (iI v3))))]
def spec_CellsUsed.h0H (a0 : List S72) (v3 : Int) (v2 : List Int) : List (Nat × Content) := [(320, .row 3 1 v2.length (fun j => (eI .i64) (v2.getD j 0)) true)]
def spec_CellsUsed.l0 : Nat → List S72 → List Int → Int → Option (List Int)
  | 0, _, _, _ => none
  | kq + 1, a0, v2, v3 => if v3 < (a0.length : Int) then (if 0 ≤ v3 then (if (v2.length + ((rdD z72 a0 v3).f0).length) * 8 ≤ 140737488355328 then (spec_CellsUsed.l0 kq a0 (v2 ++ (rdD z72 a0 v3).f0) (w64 (v3 + 1))) else none) else none) else ((spec_l11Sorted.f kq v2).bind fun t4 => some t4)
def spec_CellsUsed.f (k : Nat) (a0 : List S72) : Option (List Int) := spec_CellsUsed.l0 k a0 ([] : List Int) 0
theorem spec_CellsUsed.go : Callable prog 149 := ⟨_, func149, by kernel_rfl, rfl⟩
theorem spec_CellsUsed.ok (k : Nat) (a0 : List S72) (r : (List Int)) (h : spec_CellsUsed.f k a0 = some r) : VCalls prog 149 [.c (R 1 e72 z72 a0)] [.c (.own 3 1 r.length (fun j => (eI .i64) (r.getD j 0)))] := by
  unfold spec_CellsUsed.f at h
  refine VCalls.of (fn := f149) (N := 21) func149 rfl rfl (fun w0 => ?_)
  have H0 : ∀ (kq : Nat) (v2 : List Int) (v3 : Int), spec_CellsUsed.l0 kq a0 v2 v3 = some r → AG prog 149 21 [.c (.own 3 1 r.length (fun j => (eI .i64) (r.getD j 0)))] w0 (headStk (codeOf f149) 0) (mkFS (spec_CellsUsed.h0T a0 v3 v2) (spec_CellsUsed.h0H a0 v3 v2)) := by
    intro kq
    induction kq with
    | zero => intro v2 v3 h; cases h
    | succ kq ih =>
      intro v2 v3 h
      rw [spec_CellsUsed.l0] at h
      by_cases c6 : v3 < (a0.length : Int)
      · replace h := ip c6 h
        obtain ⟨c7, h⟩ := ifN h
        obtain ⟨c8, h⟩ := ifN h
        exact hd func149 [.b true, .aft 18, orow 320 (eI .i64) 0 (v2 ++ (rdD z72 a0 v3).f0), .reg 4, .flat 320, .fin] (oT c6 (o1 c7 (o1 c6 (o1 c8 (o1 (GE.app (e := (eI .i64)) (d := 0) v2 ((rdD z72 a0 v3).f0) rfl (fun _ _ => CE.refl _) rfl) (o1 (SC.of (e := (eI .i64)) (d := 0) (v2 ++ (rdD z72 a0 v3).f0) (by intro x; rfl)) on)))))) (ih (v2 ++ (rdD z72 a0 v3).f0) (w64 (v3 + 1)) h)
      · replace h := iq c6 h
        obtain ⟨t4, g9, h⟩ := bindN h
        let C9 := mkCon (spec_l11Sorted.ok kq v2 t4 g9) spec_l11Sorted.go
        cases h
        exact rt func149 [.b false, .fin, .call C9, .fin] (oF c6 (oc C9 on))
  exact hd func149 [rowe 5 (eI .i64) 0 ([] : List Int), .fin] (o1 (GE.lit 1 (eI .i64) 0 ([] : List Int) (by intro x; rfl)) on) (H0 k ([] : List Int) 0 h)

/-! ### spec_Footprint: function 82 -/
def spec_Footprint.f (k : Nat) (a0 : S48) : Option (List Int) := if a0.f4 = true then ((spec_CellsUsed.f k a0.f5.f2).bind fun t1 => some t1) else (some ([] : List Int))
theorem spec_Footprint.go : Callable prog 82 := ⟨_, func82, by kernel_rfl, rfl⟩
theorem spec_Footprint.ok (k : Nat) (a0 : S48) (r : (List Int)) (h : spec_Footprint.f k a0 = some r) : VCalls prog 82 [.agg (e48 a0)] [.c (.own 3 1 r.length (fun j => (eI .i64) (r.getD j 0)))] := by
  unfold spec_Footprint.f at h
  refine VCalls.of (fn := f82) (N := 11) func82 rfl rfl (fun w0 => ?_)
  by_cases c1 : a0.f4 = true
  · replace h := ip c1 h
    obtain ⟨t1, g2, h⟩ := bindN h
    let C2 := mkCon (spec_CellsUsed.ok k a0.f5.f2 t1 g2) spec_CellsUsed.go
    cases h
    exact rt func82 [.b false, .call C2, .fin] (o1 (bnf c1) (oc C2 on))
  · replace h := iq c1 h
    cases h
    exact rt func82 [.b true, rowe 6 (eI .i64) 0 ([] : List Int), .fin] (oN c1 (o1 (GE.lit 1 (eI .i64) 0 ([] : List Int) (by intro x; rfl)) on))

/-! ### spec_Walled: function 85 -/
def spec_Walled.h0T (a1 : List Int) (v4 : Int) (a0 : S38) (v3 : List Int) : List (Nat × AV) := [(1, .t (.c (.p false (R 1 (eI .i64) 0 a1)))), (2, .ptr 128 0), (4, .ptr 256 0), (5, .t (.c (.h 832))), (6, .t (.c (.p true (iI v4))))]
def spec_Walled.h0H (a1 : List Int) (v4 : Int) (a0 : S38) (v3 : List Int) : List (Nat × Content) := [(128, .box 38 [.p false (iI a0.f0), .p false (iI a0.f1), .p false (.sc (.string a0.f2))]), (256, .box 38 [.p true (iI 0), .p true (iI 0), .p true (.sc (.string (⟨#[]⟩ : ByteArray)))]), (832, .row 1099511627781 1 v3.length (fun j => (eI .u8) (v3.getD j 0)) true)]
def spec_Walled.l0 : Nat → List Int → S38 → List Int → Int → Option S38
  | 0, _, _, _, _ => none
  | kq + 1, a1, a0, v3, v4 => if v4 < (a1.length : Int) then (if 0 ≤ v4 then (if 0 ≤ (rdD 0 a1 v4) then (if (rdD 0 a1 v4) < (v3.length : Int) then (spec_Walled.l0 kq a1 a0 (v3.set (rdD 0 a1 v4).toNat 35) (w64 (v4 + 1))) else (spec_Walled.l0 kq a1 a0 v3 (w64 (v4 + 1)))) else (spec_Walled.l0 kq a1 a0 v3 (w64 (v4 + 1)))) else none) else (if isBytes v3 = true then (some (⟨a0.f0, a0.f1, (strOf v3)⟩ : S38)) else none)
def spec_Walled.f (k : Nat) (a0 : S38) (a1 : List Int) : Option S38 := (spec_GridOk.f k a0).bind fun t1 => if t1 = true then (if a0.f2.size ≤ maxLen then (spec_Walled.l0 k a1 a0 (bytesOf a0.f2) 0) else none) else (some a0)
theorem spec_Walled.go : Callable prog 85 := ⟨_, func85, by kernel_rfl, rfl⟩
theorem spec_Walled.ok (k : Nat) (a0 : S38) (a1 : List Int) (r : S38) (h : spec_Walled.f k a0 a1 = some r) : VCalls prog 85 [.agg (e38 a0), .c (R 1 (eI .i64) 0 a1)] [.agg (r38 r)] := by
  unfold spec_Walled.f at h
  refine VCalls.of (fn := f85) (N := 47) func85 rfl rfl (fun w0 => ?_)
  obtain ⟨t1, g1, h⟩ := bindN h
  let C1 := mkCon (spec_GridOk.ok k a0 t1 g1) spec_GridOk.go
  by_cases c2 : t1 = true
  · replace h := ip c2 h
    obtain ⟨c3, h⟩ := ifN h
    have H0 : ∀ (kq : Nat) (v3 : List Int) (v4 : Int), spec_Walled.l0 kq a1 a0 v3 v4 = some r → AG prog 85 47 [.agg (r38 r)] w0 (headStk (codeOf f85) 0) (mkFS (spec_Walled.h0T a1 v4 a0 v3) (spec_Walled.h0H a1 v4 a0 v3)) := by
      intro kq
      induction kq with
      | zero => intro v3 v4 h; cases h
      | succ kq ih =>
        intro v3 v4 h
        rw [spec_Walled.l0] at h
        by_cases c11 : v4 < (a1.length : Int)
        · replace h := ip c11 h
          obtain ⟨c12, h⟩ := ifN h
          by_cases c13 : 0 ≤ (rdD 0 a1 v4)
          · replace h := ip c13 h
            by_cases c14 : (rdD 0 a1 v4) < (v3.length : Int)
            · replace h := ip c14 h
              exact hd func85 [.b true, .dec 25 true, .b true, .aft 999999, orow 832 (eI .u8) 0 (v3.set (rdD 0 a1 v4).toNat 35), .fin] (oT c11 (o1 c12 (o1 c11 (oT c13 (o1 c12 (o1 c11 (oT c14 (o1 c12 (o1 c11 (o1 c13 (o1 c14 (o1 (GE.set (e := (eI .u8)) (d := 0) v3 (rdD 0 a1 v4).toNat 35 (lt_toNat c13 c14) rfl) on)))))))))))) (ih (v3.set (rdD 0 a1 v4).toNat 35) (w64 (v4 + 1)) h)
            · replace h := iq c14 h
              exact hd func85 [.b true, .dec 25 true, .b false, .fin] (oT c11 (o1 c12 (o1 c11 (oT c13 (o1 c12 (o1 c11 (oF c14 on))))))) (ih v3 (w64 (v4 + 1)) h)
          · replace h := iq c13 h
            exact hd func85 [.b true, .dec 25 false, .b false, .fin] (oT c11 (o1 c12 (o1 c11 (oF c13 (o1 (rfl : false = false) on))))) (ih v3 (w64 (v4 + 1)) h)
        · replace h := iq c11 h
          obtain ⟨c15, h⟩ := ifN h
          cases h
          exact rt func85 [.b false, .fin, .cst 45 (.sc (.string (strOf v3))), .fin] (oF c11 (o1 (ByOk.of c15) (o1 (VE.str v3) on)))
    exact hd func85 [.call C1, .b false, rowe 13 (eI .u8) 0 (bytesOf a0.f2), .fin] (oc C1 (o1 (bnf c2) (o1 c3 (o1 (GE.bytes a0.f2) on)))) (H0 k (bytesOf a0.f2) 0 h)
  · replace h := iq c2 h
    cases h
    exact rt func85 [.call C1, .b true, .fin] (oc C1 (oN c2 on))

/-! ### spec_FreeCells: function 205 -/
def spec_FreeCells.h0T (v5 : Int) (a0 : S38) (v4 : List Int) : List (Nat × AV) := [(1, .ptr 64 0), (3, .t (.c (.h 320))), (4, .t (.c (.p true (iI v5))))]
def spec_FreeCells.h0H (v5 : Int) (a0 : S38) (v4 : List Int) : List (Nat × Content) := [(64, .box 38 [.p false (iI a0.f0), .p false (iI a0.f1), .p false (.sc (.string a0.f2))]), (320, .row 3 1 v4.length (fun j => (eI .i64) (v4.getD j 0)) true)]
def spec_FreeCells.l0 : Nat → S38 → List Int → Int → Option (List Int)
  | 0, _, _, _ => none
  | kq + 1, a0, v4, v5 => if v5 < (a0.f2.size : Int) then (if v5 < 64 then ((spec_FreeAt.f kq a0 v5).bind fun t6 => if t6 = true then (if (v4.length + 1) * 8 ≤ 140737488355328 then (spec_FreeCells.l0 kq a0 (v4 ++ [v5]) (w64 (v5 + 1))) else none) else (spec_FreeCells.l0 kq a0 v4 (w64 (v5 + 1)))) else (some v4)) else (some v4)
def spec_FreeCells.f (k : Nat) (a0 : S38) : Option (List Int) := spec_FreeCells.l0 k a0 ([] : List Int) 0
theorem spec_FreeCells.go : Callable prog 205 := ⟨_, func205, by kernel_rfl, rfl⟩
theorem spec_FreeCells.ok (k : Nat) (a0 : S38) (r : (List Int)) (h : spec_FreeCells.f k a0 = some r) : VCalls prog 205 [.agg (e38 a0)] [.c (.own 3 1 r.length (fun j => (eI .i64) (r.getD j 0)))] := by
  unfold spec_FreeCells.f at h
  refine VCalls.of (fn := f205) (N := 25) func205 rfl rfl (fun w0 => ?_)
  have H0 : ∀ (kq : Nat) (v4 : List Int) (v5 : Int), spec_FreeCells.l0 kq a0 v4 v5 = some r → AG prog 205 25 [.c (.own 3 1 r.length (fun j => (eI .i64) (r.getD j 0)))] w0 (headStk (codeOf f205) 0) (mkFS (spec_FreeCells.h0T v5 a0 v4) (spec_FreeCells.h0H v5 a0 v4)) := by
    intro kq
    induction kq with
    | zero => intro v4 v5 h; cases h
    | succ kq ih =>
      intro v4 v5 h
      rw [spec_FreeCells.l0] at h
      by_cases c11 : v5 < (a0.f2.size : Int)
      · replace h := ip c11 h
        by_cases c12 : v5 < 64
        · replace h := ip c12 h
          obtain ⟨t6, g13, h⟩ := bindN h
          let C13 := mkCon (spec_FreeAt.ok kq a0 v5 t6 g13) spec_FreeAt.go
          by_cases c14 : t6 = true
          · replace h := ip c14 h
            obtain ⟨c15, h⟩ := ifN h
            exact hd func205 [.dec 11 true, .b true, .call C13, .b true, rowe 22 (eI .i64) 0 ([v5]), .aft 23, orow 320 (eI .i64) 0 (v4 ++ [v5]), .fin] (oT c11 (oT c12 (oc C13 (o1 c14 (o1 (GE.lit 1 (eI .i64) 0 [v5] (by intro x; rfl)) (o1 c15 (o1 (GE.app (e := (eI .i64)) (d := 0) v4 ([v5]) rfl (fun _ _ => CE.refl _) rfl) on))))))) (ih (v4 ++ [v5]) (w64 (v5 + 1)) h)
          · replace h := iq c14 h
            exact hd func205 [.dec 11 true, .b true, .call C13, .b false, .fin] (oT c11 (oT c12 (oc C13 (o1 (eqf c14) on)))) (ih v4 (w64 (v5 + 1)) h)
        · replace h := iq c12 h
          cases h
          exact rt func205 [.dec 11 true, .b false, .fin, .fin] (oT c11 (oF c12 on))
      · replace h := iq c11 h
        cases h
        exact rt func205 [.dec 11 false, .b false, .fin, .fin] (oF c11 (o1 (rfl : false = false) on))
  exact hd func205 [rowe 5 (eI .i64) 0 ([] : List Int), .fin] (o1 (GE.lit 1 (eI .i64) 0 ([] : List Int) (by intro x; rfl)) on) (H0 k ([] : List Int) 0 h)

/-! ### spec_AskOk: function 150 -/
def spec_AskOk.f (k : Nat) (a0 : S38) (a1 : List Int) (a2 : List Int) (a3 : Int) : Option Bool := (spec_GridOk.f k a0).bind fun t1 => if t1 = true then ((spec_l01In.f (a1.length : Int) 1 10).bind fun t2 => if t2 = true then (if (a1.length : Int) < (a2.length : Int) then (some false) else ((spec_l01In.f a3 0 20).bind fun t3 => if t3 = true then ((spec_l10Cells.f k a0 a1).bind fun t4 => if t4 = true then ((spec_l10Cells.f k a0 a2).bind fun t5 => if t5 = true then ((spec_FreeCells.f k a0).bind fun t6 => some (decide ((w64 ((t6.length : Int) * (w64 (a3 + 1)))) ≤ 240))) else (some false)) else (some false)) else (some false))) else (some false)) else (some false)
theorem spec_AskOk.go : Callable prog 150 := ⟨_, func150, by kernel_rfl, rfl⟩
theorem spec_AskOk.ok (k : Nat) (a0 : S38) (a1 : List Int) (a2 : List Int) (a3 : Int) (r : Bool) (h : spec_AskOk.f k a0 a1 a2 a3 = some r) : VCalls prog 150 [.agg (e38 a0), .c (R 1 (eI .i64) 0 a1), .c (R 1 (eI .i64) 0 a2), .c (iI a3)] [.c (.p (.sc (.bool r)))] := by
  unfold spec_AskOk.f at h
  refine VCalls.of (fn := f150) (N := 47) func150 rfl rfl (fun w0 => ?_)
  obtain ⟨t1, g1, h⟩ := bindN h
  let C1 := mkCon (spec_GridOk.ok k a0 t1 g1) spec_GridOk.go
  by_cases c2 : t1 = true
  · replace h := ip c2 h
    obtain ⟨t2, g3, h⟩ := bindN h
    let C3 := mkCon (spec_l01In.ok (a1.length : Int) 1 10 t2 g3) spec_l01In.go
    by_cases c4 : t2 = true
    · replace h := ip c4 h
      by_cases c5 : (a1.length : Int) < (a2.length : Int)
      · replace h := ip c5 h
        cases h
        exact rt func150 [.call C1, .dec 12 false, .call C3, .dec 18 false, .dec 25 true, .b true, .fin] (oc C1 (o1 (bnf c2) (oc C3 (o1 (bnf c4) (oT c5 (oR on))))))
      · replace h := iq c5 h
        obtain ⟨t3, g6, h⟩ := bindN h
        let C6 := mkCon (spec_l01In.ok a3 0 20 t3 g6) spec_l01In.go
        by_cases c7 : t3 = true
        · replace h := ip c7 h
          obtain ⟨t4, g8, h⟩ := bindN h
          let C8 := mkCon (spec_l10Cells.ok k a0 a1 t4 g8) spec_l10Cells.go
          by_cases c9 : t4 = true
          · replace h := ip c9 h
            obtain ⟨t5, g10, h⟩ := bindN h
            let C10 := mkCon (spec_l10Cells.ok k a0 a2 t5 g10) spec_l10Cells.go
            by_cases c11 : t5 = true
            · replace h := ip c11 h
              obtain ⟨t6, g12, h⟩ := bindN h
              let C12 := mkCon (spec_FreeCells.ok k a0 t6 g12) spec_FreeCells.go
              cases h
              exact rt func150 [.call C1, .dec 12 false, .call C3, .dec 18 false, .dec 25 false, .call C6, .b false, .call C8, .dec 33 true, .call C10, .dec 38 true, .call C12, .fin] (oc C1 (o1 (bnf c2) (oc C3 (o1 (bnf c4) (oF c5 (oc C6 (o1 (bnf c7) (oc C8 (o1 c9 (oc C10 (o1 c11 (oc C12 on))))))))))))
            · replace h := iq c11 h
              cases h
              exact rt func150 [.call C1, .dec 12 false, .call C3, .dec 18 false, .dec 25 false, .call C6, .b false, .call C8, .dec 33 true, .call C10, .dec 38 false, .fin] (oc C1 (o1 (bnf c2) (oc C3 (o1 (bnf c4) (oF c5 (oc C6 (o1 (bnf c7) (oc C8 (o1 c9 (oc C10 (o1 (eqf c11) on)))))))))))
          · replace h := iq c9 h
            cases h
            exact rt func150 [.call C1, .dec 12 false, .call C3, .dec 18 false, .dec 25 false, .call C6, .b false, .call C8, .dec 33 false, .fin] (oc C1 (o1 (bnf c2) (oc C3 (o1 (bnf c4) (oF c5 (oc C6 (o1 (bnf c7) (oc C8 (o1 (eqf c9) on)))))))))
        · replace h := iq c7 h
          cases h
          exact rt func150 [.call C1, .dec 12 false, .call C3, .dec 18 false, .dec 25 false, .call C6, .b true, .fin] (oc C1 (o1 (bnf c2) (oc C3 (o1 (bnf c4) (oF c5 (oc C6 (oN c7 on)))))))
    · replace h := iq c4 h
      cases h
      exact rt func150 [.call C1, .dec 12 false, .call C3, .dec 18 true, .b true, .fin] (oc C1 (o1 (bnf c2) (oc C3 (oN c4 (oR on)))))
  · replace h := iq c2 h
    cases h
    exact rt func150 [.call C1, .dec 12 true, .b true, .fin] (oc C1 (oN c2 (oR on)))

/-! ### spec_l12Form: function 151 -/
def spec_l12Form.h0T (a0 : List Int) (v1 : Int) (a1 : S45) : List (Nat × AV) := [(0, .t (.c (.p false (R 1 (eI .i64) 0 a0)))), (3, .ptr 192 0), (5, .t (.c (.p true (iI v1))))]
def spec_l12Form.h0H (a0 : List Int) (v1 : Int) (a1 : S45) : List (Nat × Content) := [(192, .box 45 [.p false (iI a1.f0), .p false (iI a1.f1), .p false (R 1 e72 z72 a1.f2)])]
def spec_l12Form.l0 : Nat → List Int → S45 → Int → Option Bool
  | 0, _, _, _ => none
  | kq + 1, a0, a1, v1 => if v1 < (a0.length : Int) then (if 0 ≤ v1 then (if v1 < (a1.f2.length : Int) then (if (((rdD z72 a1.f2 v1).f0).length : Int) = (w64 (a1.f0 + 1)) then (if 0 < (((rdD z72 a1.f2 v1).f0).length : Int) then (if (rdD 0 ((rdD z72 a1.f2 v1).f0) 0) = (rdD 0 a0 v1) then (spec_l12Form.l0 kq a0 a1 (w64 (v1 + 1))) else (some false)) else none) else (some false)) else none) else none) else (some true)
def spec_l12Form.f (k : Nat) (a0 : List Int) (a1 : S45) : Option Bool := if (a1.f2.length : Int) = (a0.length : Int) then (spec_l12Form.l0 k a0 a1 0) else (some false)
theorem spec_l12Form.go : Callable prog 151 := ⟨_, func151, by kernel_rfl, rfl⟩
theorem spec_l12Form.ok (k : Nat) (a0 : List Int) (a1 : S45) (r : Bool) (h : spec_l12Form.f k a0 a1 = some r) : VCalls prog 151 [.c (R 1 (eI .i64) 0 a0), .agg (e45 a1)] [.c (.p (.sc (.bool r)))] := by
  unfold spec_l12Form.f at h
  refine VCalls.of (fn := f151) (N := 44) func151 rfl rfl (fun w0 => ?_)
  by_cases c1 : (a1.f2.length : Int) = (a0.length : Int)
  · replace h := ip c1 h
    have H0 : ∀ (kq : Nat) (v1 : Int), spec_l12Form.l0 kq a0 a1 v1 = some r → AG prog 151 44 [.c (.p (.sc (.bool r)))] w0 (headStk (codeOf f151) 0) (mkFS (spec_l12Form.h0T a0 v1 a1) (spec_l12Form.h0H a0 v1 a1)) := by
      intro kq
      induction kq with
      | zero => intro v1 h; cases h
      | succ kq ih =>
        intro v1 h
        rw [spec_l12Form.l0] at h
        by_cases c7 : v1 < (a0.length : Int)
        · replace h := ip c7 h
          obtain ⟨c8, h⟩ := ifN h
          obtain ⟨c9, h⟩ := ifN h
          by_cases c10 : (((rdD z72 a1.f2 v1).f0).length : Int) = (w64 (a1.f0 + 1))
          · replace h := ip c10 h
            obtain ⟨c11, h⟩ := ifN h
            by_cases c12 : (rdD 0 ((rdD z72 a1.f2 v1).f0) 0) = (rdD 0 a0 v1)
            · replace h := ip c12 h
              exact hd func151 [.b true, .dec 29 false, .b false, .fin] (oT c7 (o1 c8 (o1 c9 (o1 (bnf (decide_eq_true c10)) (o1 c8 (o1 c9 (o1 (by decide : (0 : Int) ≤ 0) (o1 c11 (o1 c8 (o1 c7 (o1 (bnf (decide_eq_true c12)) on))))))))))) (ih (w64 (v1 + 1)) h)
            · replace h := iq c12 h
              cases h
              exact rt func151 [.b true, .dec 29 false, .b true, .fin] (oT c7 (o1 c8 (o1 c9 (o1 (bnf (decide_eq_true c10)) (o1 c8 (o1 c9 (o1 (by decide : (0 : Int) ≤ 0) (o1 c11 (o1 c8 (o1 c7 (o1 (bnt (decide_eq_false c12)) on)))))))))))
          · replace h := iq c10 h
            cases h
            exact rt func151 [.b true, .dec 29 true, .b true, .fin] (oT c7 (o1 c8 (o1 c9 (o1 (bnt (decide_eq_false c10)) (oR on)))))
        · replace h := iq c7 h
          cases h
          exact rt func151 [.b false, .fin, .fin] (oF c7 on)
    exact hd func151 [.b false, .fin] (o1 (bnf (decide_eq_true c1)) on) (H0 k 0 h)
  · replace h := iq c1 h
    cases h
    exact rt func151 [.b true, .fin] (o1 (bnt (decide_eq_false c1)) on)

/-! ### spec_LevelWays: function 206 -/
def spec_LevelWays.h0T (a0 : List S72) (v2 : Int) : List (Nat × AV) := [(0, .t (.c (.p false (R 1 e72 z72 a0)))), (5, .t (.c (.p true (iI v2))))]
def spec_LevelWays.h0H (a0 : List S72) (v2 : Int) : List (Nat × Content) := []
def spec_LevelWays.l0 : Nat → List S72 → Int → Option Bool
  | 0, _, _ => none
  | kq + 1, a0, v2 => if v2 < (a0.length : Int) then (if 0 ≤ v2 then (if (((rdD z72 a0 v2).f0).length : Int) = (((rdD z72 a0 0).f0).length : Int) then (spec_LevelWays.l0 kq a0 (w64 (v2 + 1))) else (some false)) else none) else (some true)
def spec_LevelWays.f (k : Nat) (a0 : List S72) (a1 : Int) : Option Bool := (spec_l01In.f (a0.length : Int) 1 10).bind fun t1 => if t1 = true then (if a1 < 0 then (some false) else (if 0 < (a0.length : Int) then (if (w64 ((((rdD z72 a0 0).f0).length : Int) - 1)) ≤ a1 then (some false) else (spec_LevelWays.l0 k a0 0)) else none)) else (some false)
theorem spec_LevelWays.go : Callable prog 206 := ⟨_, func206, by kernel_rfl, rfl⟩
theorem spec_LevelWays.ok (k : Nat) (a0 : List S72) (a1 : Int) (r : Bool) (h : spec_LevelWays.f k a0 a1 = some r) : VCalls prog 206 [.c (R 1 e72 z72 a0), .c (iI a1)] [.c (.p (.sc (.bool r)))] := by
  unfold spec_LevelWays.f at h
  refine VCalls.of (fn := f206) (N := 42) func206 rfl rfl (fun w0 => ?_)
  obtain ⟨t1, g1, h⟩ := bindN h
  let C1 := mkCon (spec_l01In.ok (a0.length : Int) 1 10 t1 g1) spec_l01In.go
  by_cases c2 : t1 = true
  · replace h := ip c2 h
    by_cases c3 : a1 < 0
    · replace h := ip c3 h
      cases h
      exact rt func206 [.call C1, .dec 10 false, .dec 14 true, .b true, .fin] (oc C1 (o1 (bnf c2) (oT c3 (oR on))))
    · replace h := iq c3 h
      obtain ⟨c4, h⟩ := ifN h
      by_cases c5 : (w64 ((((rdD z72 a0 0).f0).length : Int) - 1)) ≤ a1
      · replace h := ip c5 h
        cases h
        exact rt func206 [.call C1, .dec 10 false, .dec 14 false, .b true, .fin] (oc C1 (o1 (bnf c2) (oF c3 (o1 (by decide : (0 : Int) ≤ 0) (o1 c4 (oT c5 on))))))
      · replace h := iq c5 h
        have H0 : ∀ (kq : Nat) (v2 : Int), spec_LevelWays.l0 kq a0 v2 = some r → AG prog 206 42 [.c (.p (.sc (.bool r)))] w0 (headStk (codeOf f206) 0) (mkFS (spec_LevelWays.h0T a0 v2) (spec_LevelWays.h0H a0 v2)) := by
          intro kq
          induction kq with
          | zero => intro v2 h; cases h
          | succ kq ih =>
            intro v2 h
            rw [spec_LevelWays.l0] at h
            by_cases c7 : v2 < (a0.length : Int)
            · replace h := ip c7 h
              obtain ⟨c8, h⟩ := ifN h
              by_cases c9 : (((rdD z72 a0 v2).f0).length : Int) = (((rdD z72 a0 0).f0).length : Int)
              · replace h := ip c9 h
                exact hd func206 [.b true, .b false, .fin] (oT c7 (o1 c8 (o1 c7 (o1 (by decide : (0 : Int) ≤ 0) (o1 c4 (o1 (bnf (decide_eq_true c9)) on)))))) (ih (w64 (v2 + 1)) h)
              · replace h := iq c9 h
                cases h
                exact rt func206 [.b true, .b true, .fin] (oT c7 (o1 c8 (o1 c7 (o1 (by decide : (0 : Int) ≤ 0) (o1 c4 (o1 (bnt (decide_eq_false c9)) on))))))
            · replace h := iq c7 h
              cases h
              exact rt func206 [.b false, .fin, .fin] (oF c7 on)
        exact hd func206 [.call C1, .dec 10 false, .dec 14 false, .b false, .fin] (oc C1 (o1 (bnf c2) (oF c3 (o1 (by decide : (0 : Int) ≤ 0) (o1 c4 (oF c5 on)))))) (H0 k 0 h)
  · replace h := iq c2 h
    cases h
    exact rt func206 [.call C1, .dec 10 true, .b true, .fin] (oc C1 (oN c2 (oR on)))

/-! ### spec_MeetAt: function 152 -/
def spec_MeetAt.h1T (a0 : List S72) (a1 : Int) (v4 : Int) (v5 : Int) : List (Nat × AV) := [(0, .t (.c (.p false (R 1 e72 z72 a0)))), (1, .t (.c (.p false (iI a1)))), (5, .t (.c (.p true (iI v4)))), (6, .t (.c (.p true (iI v5))))]
def spec_MeetAt.h1H (a0 : List S72) (a1 : Int) (v4 : Int) (v5 : Int) : List (Nat × Content) := []
def spec_MeetAt.x1T (a0 : List S72) (a1 : Int) (v4 : Int) : List (Nat × AV) := [(0, .t (.c (.p false (R 1 e72 z72 a0)))), (1, .t (.c (.p false (iI a1)))), (5, .t (.c (.p true (iI v4))))]
def spec_MeetAt.x1H (a0 : List S72) (a1 : Int) (v4 : Int) : List (Nat × Content) := []
def spec_MeetAt.l1 : Nat → Int → Int → List S72 → Int → Option (Bool ⊕ Unit)
  | 0, _, _, _, _ => none
  | kq + 1, v4, a1, a0, v5 => if v5 < v4 then (if 0 ≤ v4 then (if 0 ≤ a1 then (if a1 < (((rdD z72 a0 v4).f0).length : Int) then (if 0 ≤ v5 then (if v5 < (a0.length : Int) then (if a1 < (((rdD z72 a0 v5).f0).length : Int) then (if (rdD 0 ((rdD z72 a0 v4).f0) a1) = (rdD 0 ((rdD z72 a0 v5).f0) a1) then (some (.inl true)) else (if 0 ≤ (w64 (a1 + 1)) then (if (w64 (a1 + 1)) < (((rdD z72 a0 v4).f0).length : Int) then (if (w64 (a1 + 1)) < (((rdD z72 a0 v5).f0).length : Int) then (if (rdD 0 ((rdD z72 a0 v4).f0) (w64 (a1 + 1))) = (rdD 0 ((rdD z72 a0 v5).f0) (w64 (a1 + 1))) then (some (.inl true)) else (spec_MeetAt.l1 kq v4 a1 a0 (w64 (v5 + 1)))) else none) else none) else none)) else none) else none) else none) else none) else none) else none) else (some (.inr ()))
def spec_MeetAt.h0T (a0 : List S72) (a1 : Int) (v4 : Int) : List (Nat × AV) := [(0, .t (.c (.p false (R 1 e72 z72 a0)))), (1, .t (.c (.p false (iI a1)))), (5, .t (.c (.p true (iI v4))))]
def spec_MeetAt.h0H (a0 : List S72) (a1 : Int) (v4 : Int) : List (Nat × Content) := []
def spec_MeetAt.l0 : Nat → List S72 → Int → Int → Option Bool
  | 0, _, _, _ => none
  | kq + 1, a0, a1, v4 => if v4 < (a0.length : Int) then ((spec_MeetAt.l1 kq v4 a1 a0 0).bind fun x46 => match x46 with | .inl r => some r | .inr y6 => (spec_MeetAt.l0 kq a0 a1 (w64 (v4 + 1)))) else (some false)
def spec_MeetAt.f (k : Nat) (a0 : List S72) (a1 : Int) : Option Bool := (spec_LevelWays.f k a0 a1).bind fun t1 => if t1 = true then (spec_MeetAt.l0 k a0 a1 0) else (some false)
theorem spec_MeetAt.go : Callable prog 152 := ⟨_, func152, by kernel_rfl, rfl⟩
theorem spec_MeetAt.ok (k : Nat) (a0 : List S72) (a1 : Int) (r : Bool) (h : spec_MeetAt.f k a0 a1 = some r) : VCalls prog 152 [.c (R 1 e72 z72 a0), .c (iI a1)] [.c (.p (.sc (.bool r)))] := by
  unfold spec_MeetAt.f at h
  refine VCalls.of (fn := f152) (N := 60) func152 rfl rfl (fun w0 => ?_)
  obtain ⟨t1, g1, h⟩ := bindN h
  let C1 := mkCon (spec_LevelWays.ok k a0 a1 t1 g1) spec_LevelWays.go
  by_cases c2 : t1 = true
  · replace h := ip c2 h
    have H0 : ∀ (kq : Nat) (v4 : Int), spec_MeetAt.l0 kq a0 a1 v4 = some r → AG prog 152 60 [.c (.p (.sc (.bool r)))] w0 (headStk (codeOf f152) 0) (mkFS (spec_MeetAt.h0T a0 a1 v4) (spec_MeetAt.h0H a0 a1 v4)) := by
      intro kq
      induction kq with
      | zero => intro v4 h; cases h
      | succ kq ih =>
        intro v4 h
        rw [spec_MeetAt.l0] at h
        by_cases c22 : v4 < (a0.length : Int)
        · replace h := ip c22 h
          have H1 : ∀ (kq : Nat) (v5 : Int) (x : (Bool ⊕ Unit)), spec_MeetAt.l1 kq v4 a1 a0 v5 = some x → (match x with | .inl r' => r' = r | .inr y6 => AG prog 152 60 [.c (.p (.sc (.bool r)))] w0 (exitStk (codeOf f152) 1) (mkFS (spec_MeetAt.x1T a0 a1 v4) (spec_MeetAt.x1H a0 a1 v4))) → AG prog 152 60 [.c (.p (.sc (.bool r)))] w0 (headStk (codeOf f152) 1) (mkFS (spec_MeetAt.h1T a0 a1 v4 v5) (spec_MeetAt.h1H a0 a1 v4 v5)) := by
            intro kq
            induction kq with
            | zero => intro v5 x h hx; cases h
            | succ kq ih =>
              intro v5 x h hx
              rw [spec_MeetAt.l1] at h
              by_cases c34 : v5 < v4
              · replace h := ip c34 h
                obtain ⟨c35, h⟩ := ifN h
                obtain ⟨c36, h⟩ := ifN h
                obtain ⟨c37, h⟩ := ifN h
                obtain ⟨c38, h⟩ := ifN h
                obtain ⟨c39, h⟩ := ifN h
                obtain ⟨c40, h⟩ := ifN h
                by_cases c41 : (rdD 0 ((rdD z72 a0 v4).f0) a1) = (rdD 0 ((rdD z72 a0 v5).f0) a1)
                · replace h := ip c41 h
                  cases h
                  subst hx
                  exact rt func152 [.b true, .dec 39 true, .b true, .fin] (oT c34 (o1 c35 (o1 c22 (o1 c36 (o1 c37 (o1 c38 (o1 c39 (o1 c36 (o1 c40 (oT c41 (oR on)))))))))))
                · replace h := iq c41 h
                  obtain ⟨c42, h⟩ := ifN h
                  obtain ⟨c43, h⟩ := ifN h
                  obtain ⟨c44, h⟩ := ifN h
                  by_cases c45 : (rdD 0 ((rdD z72 a0 v4).f0) (w64 (a1 + 1))) = (rdD 0 ((rdD z72 a0 v5).f0) (w64 (a1 + 1)))
                  · replace h := ip c45 h
                    cases h
                    subst hx
                    exact rt func152 [.b true, .dec 39 false, .b true, .fin] (oT c34 (o1 c35 (o1 c22 (o1 c36 (o1 c37 (o1 c38 (o1 c39 (o1 c36 (o1 c40 (oF c41 (o1 c35 (o1 c22 (o1 c42 (o1 c43 (o1 c38 (o1 c39 (o1 c42 (o1 c44 (oT c45 on)))))))))))))))))))
                  · replace h := iq c45 h
                    exact hd func152 [.b true, .dec 39 false, .b false, .fin] (oT c34 (o1 c35 (o1 c22 (o1 c36 (o1 c37 (o1 c38 (o1 c39 (o1 c36 (o1 c40 (oF c41 (o1 c35 (o1 c22 (o1 c42 (o1 c43 (o1 c38 (o1 c39 (o1 c42 (o1 c44 (oF c45 on))))))))))))))))))) (ih (w64 (v5 + 1)) _ h hx)
              · replace h := iq c34 h
                cases h
                exact st func152 [.b false, .fin] (oF c34 on) hx
          obtain ⟨x46, g46, h⟩ := bindN h
          cases x46 with
          | inl r' =>
            exact hd func152 [.b true, .fin] (oT c22 on) (H1 kq 0 _ g46 (Option.some.inj h))
          | inr y6 =>
            refine hd func152 [.b true, .fin] (oT c22 on) (H1 kq 0 _ g46 ?_)
            show AG prog 152 60 [.c (.p (.sc (.bool r)))] w0 (exitStk (codeOf f152) 1) (mkFS (spec_MeetAt.x1T a0 a1 v4) (spec_MeetAt.x1H a0 a1 v4))
            exact hd func152 [.fin] on (ih (w64 (v4 + 1)) h)
        · replace h := iq c22 h
          cases h
          exact rt func152 [.b false, .fin, .fin] (oF c22 on)
    exact hd func152 [.call C1, .b false, .fin] (oc C1 (o1 (bnf c2) on)) (H0 k 0 h)
  · replace h := iq c2 h
    cases h
    exact rt func152 [.call C1, .b true, .fin] (oc C1 (oN c2 on))

/-! ### spec_l12Ring: function 235 -/
def spec_l12Ring.h1T (a0 : List S72) (a1 : Int) (a2 : Int) (v14 : Int) (v15 : Int) (v20 : Int) (v19 : Int) : List (Nat × AV) := [(0, .t (.c (.p false (R 1 e72 z72 a0)))), (1, .t (.c (.p false (iI a1)))), (2, .t (.c (.p false (iI a2)))), (7, .t (.c (.p false (iI v14)))), (8, .t (.c (.p true (iI v15)))), (9, .t (.c (.p true (iI v20)))), (10, .t (.c (.p true (iI v19))))]
def spec_l12Ring.h1H (a0 : List S72) (a1 : Int) (a2 : Int) (v14 : Int) (v15 : Int) (v20 : Int) (v19 : Int) : List (Nat × Content) := []
def spec_l12Ring.x1T (a0 : List S72) (a1 : Int) (a2 : Int) (v15 : Int) (y21 : Int) : List (Nat × AV) := [(0, .t (.c (.p false (R 1 e72 z72 a0)))), (1, .t (.c (.p false (iI a1)))), (2, .t (.c (.p false (iI a2)))), (8, .t (.c (.p true (iI v15)))), (9, .t (.c (.p true (iI y21))))]
def spec_l12Ring.x1H (a0 : List S72) (a1 : Int) (a2 : Int) (v15 : Int) (y21 : Int) : List (Nat × Content) := []
def spec_l12Ring.l1 : Nat → List S72 → Int → Int → Int → Int → Option Int
  | 0, _, _, _, _, _ => none
  | kq + 1, a0, a1, v14, v19, v20 => if v19 < (a0.length : Int) then (if 0 ≤ v19 then (if 0 ≤ a1 then (if a1 < (((rdD z72 a0 v19).f0).length : Int) then (if 0 ≤ v14 then (if v14 < (a0.length : Int) then (if 0 ≤ (w64 (a1 + 1)) then (if (w64 (a1 + 1)) < (((rdD z72 a0 v14).f0).length : Int) then (if (rdD 0 ((rdD z72 a0 v19).f0) a1) = (rdD 0 ((rdD z72 a0 v14).f0) (w64 (a1 + 1))) then (spec_l12Ring.l1 kq a0 a1 v14 (w64 (v19 + 1)) v19) else (spec_l12Ring.l1 kq a0 a1 v14 (w64 (v19 + 1)) v20)) else none) else none) else none) else none) else none) else none) else none) else (some v20)
def spec_l12Ring.h0T (a0 : List S72) (a1 : Int) (a2 : Int) (v14 : Int) (v15 : Int) : List (Nat × AV) := [(0, .t (.c (.p false (R 1 e72 z72 a0)))), (1, .t (.c (.p false (iI a1)))), (2, .t (.c (.p false (iI a2)))), (7, .t (.c (.p false (iI v14)))), (8, .t (.c (.p true (iI v15))))]
def spec_l12Ring.h0H (a0 : List S72) (a1 : Int) (a2 : Int) (v14 : Int) (v15 : Int) : List (Nat × Content) := []
def spec_l12Ring.l0 : Nat → List S72 → Int → Int → Int → Int → Option Int
  | 0, _, _, _, _, _ => none
  | kq + 1, a0, a1, a2, v14, v15 => if v15 ≤ (a0.length : Int) then ((spec_l12Ring.l1 kq a0 a1 v14 0 (-1)).bind fun y21 => (if y21 < 0 then (some 0) else (if y21 = a2 then (some v15) else (spec_l12Ring.l0 kq a0 a1 a2 y21 (w64 (v15 + 1)))))) else (some 0)
def spec_l12Ring.f (k : Nat) (a0 : List S72) (a1 : Int) (a2 : Int) : Option Int := spec_l12Ring.l0 k a0 a1 a2 a2 1
theorem spec_l12Ring.go : Callable prog 235 := ⟨_, func235, by kernel_rfl, rfl⟩
theorem spec_l12Ring.ok (k : Nat) (a0 : List S72) (a1 : Int) (a2 : Int) (r : Int) (h : spec_l12Ring.f k a0 a1 a2 = some r) : VCalls prog 235 [.c (R 1 e72 z72 a0), .c (iI a1), .c (iI a2)] [.c (.p (iI r))] := by
  unfold spec_l12Ring.f at h
  refine VCalls.of (fn := f235) (N := 50) func235 rfl rfl (fun w0 => ?_)
  have H0 : ∀ (kq : Nat) (v14 : Int) (v15 : Int), spec_l12Ring.l0 kq a0 a1 a2 v14 v15 = some r → AG prog 235 50 [.c (.p (iI r))] w0 (headStk (codeOf f235) 0) (mkFS (spec_l12Ring.h0T a0 a1 a2 v14 v15) (spec_l12Ring.h0H a0 a1 a2 v14 v15)) := by
    intro kq
    induction kq with
    | zero => intro v14 v15 h; cases h
    | succ kq ih =>
      intro v14 v15 h
      rw [spec_l12Ring.l0] at h
      by_cases c75 : v15 ≤ (a0.length : Int)
      · replace h := ip c75 h
        have H1 : ∀ (kq : Nat) (v19 : Int) (v20 : Int) (x : Int), spec_l12Ring.l1 kq a0 a1 v14 v19 v20 = some x → AG prog 235 50 [.c (.p (iI r))] w0 (exitStk (codeOf f235) 1) (mkFS (spec_l12Ring.x1T a0 a1 a2 v15 x) (spec_l12Ring.x1H a0 a1 a2 v15 x)) → AG prog 235 50 [.c (.p (iI r))] w0 (headStk (codeOf f235) 1) (mkFS (spec_l12Ring.h1T a0 a1 a2 v14 v15 v20 v19) (spec_l12Ring.h1H a0 a1 a2 v14 v15 v20 v19)) := by
          intro kq
          induction kq with
          | zero => intro v19 v20 x h hx; cases h
          | succ kq ih =>
            intro v19 v20 x h hx
            rw [spec_l12Ring.l1] at h
            by_cases c101 : v19 < (a0.length : Int)
            · replace h := ip c101 h
              obtain ⟨c102, h⟩ := ifN h
              obtain ⟨c103, h⟩ := ifN h
              obtain ⟨c104, h⟩ := ifN h
              obtain ⟨c105, h⟩ := ifN h
              obtain ⟨c106, h⟩ := ifN h
              obtain ⟨c107, h⟩ := ifN h
              obtain ⟨c108, h⟩ := ifN h
              by_cases c109 : (rdD 0 ((rdD z72 a0 v19).f0) a1) = (rdD 0 ((rdD z72 a0 v14).f0) (w64 (a1 + 1)))
              · replace h := ip c109 h
                exact hd func235 [.b true, .b true, .fin] (oT c101 (o1 c102 (o1 c101 (o1 c103 (o1 c104 (o1 c105 (o1 c106 (o1 c107 (o1 c108 (oT c109 on)))))))))) (ih (w64 (v19 + 1)) v19 _ h hx)
              · replace h := iq c109 h
                exact hd func235 [.b true, .b false, .fin] (oT c101 (o1 c102 (o1 c101 (o1 c103 (o1 c104 (o1 c105 (o1 c106 (o1 c107 (o1 c108 (oF c109 on)))))))))) (ih (w64 (v19 + 1)) v20 _ h hx)
            · replace h := iq c101 h
              cases h
              exact st func235 [.b false, .fin] (oF c101 on) hx
        obtain ⟨y21, g112, h⟩ := bindN h
        refine hd func235 [.b true, .fin] (oT c75 on) (H1 kq 0 (-1) _ g112 ?_)
        by_cases c110 : y21 < 0
        · replace h := ip c110 h
          cases h
          exact rt func235 [.b true, .fin] (oT c110 on)
        · replace h := iq c110 h
          by_cases c111 : y21 = a2
          · replace h := ip c111 h
            cases h
            exact rt func235 [.b false, .b true, .fin] (oF c110 (oT c111 on))
          · replace h := iq c111 h
            exact hd func235 [.b false, .b false, .fin] (oF c110 (oF c111 on)) (ih y21 (w64 (v15 + 1)) h)
      · replace h := iq c75 h
        cases h
        exact rt func235 [.b false, .fin, .fin] (oF c75 on)
  exact hd func235 [.fin] on (H0 k a2 1 h)

/-! ### spec_l12Count: function 207 -/
def spec_l12Count.h0T (a0 : List S72) (a1 : Int) (a2 : Int) (a3 : Int) (v9 : Int) (v8 : Int) : List (Nat × AV) := [(0, .t (.c (.p false (R 1 e72 z72 a0)))), (1, .t (.c (.p false (iI a1)))), (2, .t (.c (.p false (iI a2)))), (3, .t (.c (.p false (iI a3)))), (9, .t (.c (.p true (iI v9)))), (10, .t (.c (.p true (iI v8))))]
def spec_l12Count.h0H (a0 : List S72) (a1 : Int) (a2 : Int) (a3 : Int) (v9 : Int) (v8 : Int) : List (Nat × Content) := []
def spec_l12Count.l0 : Nat → List S72 → Int → Int → Int → Int → Int → Option Int
  | 0, _, _, _, _, _, _ => none
  | kq + 1, a0, a1, a2, a3, v8, v9 => if v8 < (a0.length : Int) then ((spec_l12Ring.f kq a0 a1 v8).bind fun t10 => (spec_l01In.f t10 a2 a3).bind fun t11 => if t11 = true then (spec_l12Count.l0 kq a0 a1 a2 a3 (w64 (v8 + 1)) (w64 (v9 + 1))) else (spec_l12Count.l0 kq a0 a1 a2 a3 (w64 (v8 + 1)) v9)) else (some v9)
def spec_l12Count.f (k : Nat) (a0 : List S72) (a1 : Int) (a2 : Int) (a3 : Int) : Option Int := (spec_LevelWays.f k a0 a1).bind fun t1 => if t1 = true then ((spec_MeetAt.f k a0 a1).bind fun t2 => if t2 = true then (some 0) else (spec_l12Count.l0 k a0 a1 a2 a3 0 0)) else (some 0)
theorem spec_l12Count.go : Callable prog 207 := ⟨_, func207, by kernel_rfl, rfl⟩
theorem spec_l12Count.ok (k : Nat) (a0 : List S72) (a1 : Int) (a2 : Int) (a3 : Int) (r : Int) (h : spec_l12Count.f k a0 a1 a2 a3 = some r) : VCalls prog 207 [.c (R 1 e72 z72 a0), .c (iI a1), .c (iI a2), .c (iI a3)] [.c (.p (iI r))] := by
  unfold spec_l12Count.f at h
  refine VCalls.of (fn := f207) (N := 36) func207 rfl rfl (fun w0 => ?_)
  obtain ⟨t1, g1, h⟩ := bindN h
  let C1 := mkCon (spec_LevelWays.ok k a0 a1 t1 g1) spec_LevelWays.go
  by_cases c2 : t1 = true
  · replace h := ip c2 h
    obtain ⟨t2, g3, h⟩ := bindN h
    let C3 := mkCon (spec_MeetAt.ok k a0 a1 t2 g3) spec_MeetAt.go
    by_cases c4 : t2 = true
    · replace h := ip c4 h
      cases h
      exact rt func207 [.call C1, .dec 15 false, .call C3, .b true, .fin] (oc C1 (o1 (bnf c2) (oc C3 (o1 c4 on))))
    · replace h := iq c4 h
      have H0 : ∀ (kq : Nat) (v8 : Int) (v9 : Int), spec_l12Count.l0 kq a0 a1 a2 a3 v8 v9 = some r → AG prog 207 36 [.c (.p (iI r))] w0 (headStk (codeOf f207) 0) (mkFS (spec_l12Count.h0T a0 a1 a2 a3 v9 v8) (spec_l12Count.h0H a0 a1 a2 a3 v9 v8)) := by
        intro kq
        induction kq with
        | zero => intro v8 v9 h; cases h
        | succ kq ih =>
          intro v8 v9 h
          rw [spec_l12Count.l0] at h
          by_cases c13 : v8 < (a0.length : Int)
          · replace h := ip c13 h
            obtain ⟨t10, g14, h⟩ := bindN h
            let C14 := mkCon (spec_l12Ring.ok kq a0 a1 v8 t10 g14) spec_l12Ring.go
            obtain ⟨t11, g15, h⟩ := bindN h
            let C15 := mkCon (spec_l01In.ok t10 a2 a3 t11 g15) spec_l01In.go
            by_cases c16 : t11 = true
            · replace h := ip c16 h
              exact hd func207 [.b true, .call C14, .call C15, .b true, .fin] (oT c13 (oc C14 (oc C15 (o1 c16 on)))) (ih (w64 (v8 + 1)) (w64 (v9 + 1)) h)
            · replace h := iq c16 h
              exact hd func207 [.b true, .call C14, .call C15, .b false, .fin] (oT c13 (oc C14 (oc C15 (o1 (eqf c16) on)))) (ih (w64 (v8 + 1)) v9 h)
          · replace h := iq c13 h
            cases h
            exact rt func207 [.b false, .fin, .fin] (oF c13 on)
      exact hd func207 [.call C1, .dec 15 false, .call C3, .b false, .fin] (oc C1 (o1 (bnf c2) (oc C3 (o1 (eqf c4) on)))) (H0 k 0 0 h)
  · replace h := iq c2 h
    cases h
    exact rt func207 [.call C1, .dec 15 true, .b true, .fin] (oc C1 (oN c2 (oR on)))

/-! ### spec_SwapsAt: function 153 -/
def spec_SwapsAt.f (k : Nat) (a0 : List S72) (a1 : Int) : Option Int := (spec_l12Count.f k a0 a1 2 2).bind fun t1 => some (w64 (t1.tdiv 2))
theorem spec_SwapsAt.go : Callable prog 153 := ⟨_, func153, by kernel_rfl, rfl⟩
theorem spec_SwapsAt.ok (k : Nat) (a0 : List S72) (a1 : Int) (r : Int) (h : spec_SwapsAt.f k a0 a1 = some r) : VCalls prog 153 [.c (R 1 e72 z72 a0), .c (iI a1)] [.c (.p (iI r))] := by
  unfold spec_SwapsAt.f at h
  refine VCalls.of (fn := f153) (N := 9) func153 rfl rfl (fun w0 => ?_)
  obtain ⟨t1, g1, h⟩ := bindN h
  let C1 := mkCon (spec_l12Count.ok k a0 a1 2 2 t1 g1) spec_l12Count.go
  cases h
  exact rt func153 [.call C1, .fin] (oc C1 (o1 (by decide : (2 : Int) ≠ 0) on))

/-! ### spec_RingsAt: function 154 -/
def spec_RingsAt.f (k : Nat) (a0 : List S72) (a1 : Int) : Option Int := (spec_l12Count.f k a0 a1 3 10).bind fun t1 => some t1
theorem spec_RingsAt.go : Callable prog 154 := ⟨_, func154, by kernel_rfl, rfl⟩
theorem spec_RingsAt.ok (k : Nat) (a0 : List S72) (a1 : Int) (r : Int) (h : spec_RingsAt.f k a0 a1 = some r) : VCalls prog 154 [.c (R 1 e72 z72 a0), .c (iI a1)] [.c (.p (iI r))] := by
  unfold spec_RingsAt.f at h
  refine VCalls.of (fn := f154) (N := 8) func154 rfl rfl (fun w0 => ?_)
  obtain ⟨t1, g1, h⟩ := bindN h
  let C1 := mkCon (spec_l12Count.ok k a0 a1 3 10 t1 g1) spec_l12Count.go
  cases h
  exact rt func154 [.call C1, .fin] (oc C1 on)

/-! ### spec_EndsOf: function 155 -/
def spec_EndsOf.h0T (a0 : List S72) (v3 : Int) (v2 : List Int) : List (Nat × AV) := [(0, .t (.c (.p false (R 1 e72 z72 a0)))), (3, .t (.c (.h 320))), (4, .t (.c (.p true (iI v3))))]
def spec_EndsOf.h0H (a0 : List S72) (v3 : Int) (v2 : List Int) : List (Nat × Content) := [(320, .row 3 1 v2.length (fun j => (eI .i64) (v2.getD j 0)) true)]
def spec_EndsOf.l0 : Nat → List S72 → List Int → Int → Option (List Int)
  | 0, _, _, _ => none
  | kq + 1, a0, v2, v3 => if v3 < (a0.length : Int) then (if 0 ≤ v3 then (if 0 < (((rdD z72 a0 v3).f0).length : Int) then (if 0 ≤ (w64 ((((rdD z72 a0 v3).f0).length : Int) - 1)) then (if (w64 ((((rdD z72 a0 v3).f0).length : Int) - 1)) < (((rdD z72 a0 v3).f0).length : Int) then (if (v2.length + 1) * 8 ≤ 140737488355328 then (spec_EndsOf.l0 kq a0 (v2 ++ [(rdD 0 ((rdD z72 a0 v3).f0) (w64 ((((rdD z72 a0 v3).f0).length : Int) - 1)))]) (w64 (v3 + 1))) else none) else none) else none) else (spec_EndsOf.l0 kq a0 v2 (w64 (v3 + 1)))) else none) else ((spec_l11Sorted.f kq v2).bind fun t4 => some t4)
def spec_EndsOf.f (k : Nat) (a0 : List S72) : Option (List Int) := spec_EndsOf.l0 k a0 ([] : List Int) 0
theorem spec_EndsOf.go : Callable prog 155 := ⟨_, func155, by kernel_rfl, rfl⟩
theorem spec_EndsOf.ok (k : Nat) (a0 : List S72) (r : (List Int)) (h : spec_EndsOf.f k a0 = some r) : VCalls prog 155 [.c (R 1 e72 z72 a0)] [.c (.own 3 1 r.length (fun j => (eI .i64) (r.getD j 0)))] := by
  unfold spec_EndsOf.f at h
  refine VCalls.of (fn := f155) (N := 38) func155 rfl rfl (fun w0 => ?_)
  have H0 : ∀ (kq : Nat) (v2 : List Int) (v3 : Int), spec_EndsOf.l0 kq a0 v2 v3 = some r → AG prog 155 38 [.c (.own 3 1 r.length (fun j => (eI .i64) (r.getD j 0)))] w0 (headStk (codeOf f155) 0) (mkFS (spec_EndsOf.h0T a0 v3 v2) (spec_EndsOf.h0H a0 v3 v2)) := by
    intro kq
    induction kq with
    | zero => intro v2 v3 h; cases h
    | succ kq ih =>
      intro v2 v3 h
      rw [spec_EndsOf.l0] at h
      by_cases c12 : v3 < (a0.length : Int)
      · replace h := ip c12 h
        obtain ⟨c13, h⟩ := ifN h
        by_cases c14 : 0 < (((rdD z72 a0 v3).f0).length : Int)
        · replace h := ip c14 h
          obtain ⟨c15, h⟩ := ifN h
          obtain ⟨c16, h⟩ := ifN h
          obtain ⟨c17, h⟩ := ifN h
          exact hd func155 [.b true, .b true, rowe 34 (eI .i64) 0 ([(rdD 0 ((rdD z72 a0 v3).f0) (w64 ((((rdD z72 a0 v3).f0).length : Int) - 1)))]), .aft 35, orow 320 (eI .i64) 0 (v2 ++ [(rdD 0 ((rdD z72 a0 v3).f0) (w64 ((((rdD z72 a0 v3).f0).length : Int) - 1)))]), .fin] (oT c12 (o1 c13 (o1 c12 (oT c14 (o1 c13 (o1 c12 (o1 c13 (o1 c12 (o1 c15 (o1 c16 (o1 (GE.lit 1 (eI .i64) 0 [(rdD 0 ((rdD z72 a0 v3).f0) (w64 ((((rdD z72 a0 v3).f0).length : Int) - 1)))] (by intro x; rfl)) (o1 c17 (o1 (GE.app (e := (eI .i64)) (d := 0) v2 ([(rdD 0 ((rdD z72 a0 v3).f0) (w64 ((((rdD z72 a0 v3).f0).length : Int) - 1)))]) rfl (fun _ _ => CE.refl _) rfl) on))))))))))))) (ih (v2 ++ [(rdD 0 ((rdD z72 a0 v3).f0) (w64 ((((rdD z72 a0 v3).f0).length : Int) - 1)))]) (w64 (v3 + 1)) h)
        · replace h := iq c14 h
          exact hd func155 [.b true, .b false, .fin] (oT c12 (o1 c13 (o1 c12 (oF c14 on)))) (ih v2 (w64 (v3 + 1)) h)
      · replace h := iq c12 h
        obtain ⟨t4, g18, h⟩ := bindN h
        let C18 := mkCon (spec_l11Sorted.ok kq v2 t4 g18) spec_l11Sorted.go
        cases h
        exact rt func155 [.b false, .fin, .call C18, .fin] (oF c12 (oc C18 on))
  exact hd func155 [rowe 5 (eI .i64) 0 ([] : List Int), .fin] (o1 (GE.lit 1 (eI .i64) 0 ([] : List Int) (by intro x; rfl)) on) (H0 k ([] : List Int) 0 h)

/-! ### spec_MovesOf: function 156 -/
def spec_MovesOf.h1T (a0 : List S72) (v19 : Int) (v15 : Int) (v20 : Int) : List (Nat × AV) := [(0, .t (.c (.p false (R 1 e72 z72 a0)))), (3, .t (.c (.p true (iI v19)))), (4, .t (.c (.p true (iI v15)))), (5, .t (.c (.p true (iI v20))))]
def spec_MovesOf.h1H (a0 : List S72) (v19 : Int) (v15 : Int) (v20 : Int) : List (Nat × Content) := []
def spec_MovesOf.x1T (a0 : List S72) (y21 : Int) (v15 : Int) : List (Nat × AV) := [(0, .t (.c (.p false (R 1 e72 z72 a0)))), (3, .t (.c (.p true (iI y21)))), (4, .t (.c (.p true (iI v15))))]
def spec_MovesOf.x1H (a0 : List S72) (y21 : Int) (v15 : Int) : List (Nat × Content) := []
def spec_MovesOf.l1 : Nat → Int → List S72 → Int → Int → Option Int
  | 0, _, _, _, _ => none
  | kq + 1, v15, a0, v19, v20 => if 0 ≤ v15 then (if v20 < (((rdD z72 a0 v15).f0).length : Int) then (if 0 ≤ v20 then (if 0 ≤ (w64 (v20 - 1)) then (if (w64 (v20 - 1)) < (((rdD z72 a0 v15).f0).length : Int) then (if (rdD 0 ((rdD z72 a0 v15).f0) v20) = (rdD 0 ((rdD z72 a0 v15).f0) (w64 (v20 - 1))) then (spec_MovesOf.l1 kq v15 a0 v19 (w64 (v20 + 1))) else (spec_MovesOf.l1 kq v15 a0 (w64 (v19 + 1)) (w64 (v20 + 1)))) else none) else none) else none) else (some v19)) else none
def spec_MovesOf.h0T (a0 : List S72) (v14 : Int) (v15 : Int) : List (Nat × AV) := [(0, .t (.c (.p false (R 1 e72 z72 a0)))), (3, .t (.c (.p true (iI v14)))), (4, .t (.c (.p true (iI v15))))]
def spec_MovesOf.h0H (a0 : List S72) (v14 : Int) (v15 : Int) : List (Nat × Content) := []
def spec_MovesOf.l0 : Nat → List S72 → Int → Int → Option Int
  | 0, _, _, _ => none
  | kq + 1, a0, v14, v15 => if v15 < (a0.length : Int) then ((spec_MovesOf.l1 kq v15 a0 v14 1).bind fun y21 => (spec_MovesOf.l0 kq a0 y21 (w64 (v15 + 1)))) else (some v14)
def spec_MovesOf.f (k : Nat) (a0 : List S72) : Option Int := spec_MovesOf.l0 k a0 0 0
theorem spec_MovesOf.go : Callable prog 156 := ⟨_, func156, by kernel_rfl, rfl⟩
theorem spec_MovesOf.ok (k : Nat) (a0 : List S72) (r : Int) (h : spec_MovesOf.f k a0 = some r) : VCalls prog 156 [.c (R 1 e72 z72 a0)] [.c (.p (iI r))] := by
  unfold spec_MovesOf.f at h
  refine VCalls.of (fn := f156) (N := 43) func156 rfl rfl (fun w0 => ?_)
  have H0 : ∀ (kq : Nat) (v14 : Int) (v15 : Int), spec_MovesOf.l0 kq a0 v14 v15 = some r → AG prog 156 43 [.c (.p (iI r))] w0 (headStk (codeOf f156) 0) (mkFS (spec_MovesOf.h0T a0 v14 v15) (spec_MovesOf.h0H a0 v14 v15)) := by
    intro kq
    induction kq with
    | zero => intro v14 v15 h; cases h
    | succ kq ih =>
      intro v14 v15 h
      rw [spec_MovesOf.l0] at h
      by_cases c41 : v15 < (a0.length : Int)
      · replace h := ip c41 h
        have H1 : ∀ (kq : Nat) (v19 : Int) (v20 : Int) (x : Int), spec_MovesOf.l1 kq v15 a0 v19 v20 = some x → AG prog 156 43 [.c (.p (iI r))] w0 (exitStk (codeOf f156) 1) (mkFS (spec_MovesOf.x1T a0 x v15) (spec_MovesOf.x1H a0 x v15)) → AG prog 156 43 [.c (.p (iI r))] w0 (headStk (codeOf f156) 1) (mkFS (spec_MovesOf.h1T a0 v19 v15 v20) (spec_MovesOf.h1H a0 v19 v15 v20)) := by
          intro kq
          induction kq with
          | zero => intro v19 v20 x h hx; cases h
          | succ kq ih =>
            intro v19 v20 x h hx
            rw [spec_MovesOf.l1] at h
            obtain ⟨c59, h⟩ := ifN h
            by_cases c60 : v20 < (((rdD z72 a0 v15).f0).length : Int)
            · replace h := ip c60 h
              obtain ⟨c61, h⟩ := ifN h
              obtain ⟨c62, h⟩ := ifN h
              obtain ⟨c63, h⟩ := ifN h
              by_cases c64 : (rdD 0 ((rdD z72 a0 v15).f0) v20) = (rdD 0 ((rdD z72 a0 v15).f0) (w64 (v20 - 1)))
              · replace h := ip c64 h
                exact hd func156 [.b true, .b false, .fin] (o1 c59 (o1 c41 (oT c60 (o1 c59 (o1 c41 (o1 c61 (o1 c60 (o1 c59 (o1 c41 (o1 c62 (o1 c63 (o1 (bnf (decide_eq_true c64)) on)))))))))))) (ih v19 (w64 (v20 + 1)) _ h hx)
              · replace h := iq c64 h
                exact hd func156 [.b true, .b true, .fin] (o1 c59 (o1 c41 (oT c60 (o1 c59 (o1 c41 (o1 c61 (o1 c60 (o1 c59 (o1 c41 (o1 c62 (o1 c63 (o1 (bnt (decide_eq_false c64)) on)))))))))))) (ih (w64 (v19 + 1)) (w64 (v20 + 1)) _ h hx)
            · replace h := iq c60 h
              cases h
              exact st func156 [.b false, .fin] (o1 c59 (o1 c41 (oF c60 on))) hx
        obtain ⟨y21, g65, h⟩ := bindN h
        refine hd func156 [.b true, .fin] (oT c41 on) (H1 kq v14 1 _ g65 ?_)
        exact hd func156 [.fin] on (ih y21 (w64 (v15 + 1)) h)
      · replace h := iq c41 h
        cases h
        exact rt func156 [.b false, .fin, .fin] (oF c41 on)
  exact hd func156 [.fin] on (H0 k 0 0 h)

/-! ### spec_PlanFault: function 84 -/
def spec_PlanFault.h1T (a2 : List Int) (v8 : Int) (a3 : S45) (v10 : Int) (a0 : S38) : List (Nat × AV) := [(2, .t (.c (.p false (R 1 (eI .i64) 0 a2)))), (4, .ptr 256 0), (7, .ptr 448 0), (9, .t (.c (.p true (iI v8)))), (10, .t (.c (.p false (R 1 (eI .i64) 0 ((rdD z72 a3.f2 v8).f0))))), (11, .t (.c (.p true (iI v10))))]
def spec_PlanFault.h1H (a2 : List Int) (v8 : Int) (a3 : S45) (v10 : Int) (a0 : S38) : List (Nat × Content) := [(256, .box 38 [.p false (iI a0.f0), .p false (iI a0.f1), .p false (.sc (.string a0.f2))]), (448, .box 45 [.p false (iI a3.f0), .p false (iI a3.f1), .p false (R 1 e72 z72 a3.f2)])]
def spec_PlanFault.x1T (a2 : List Int) (v8 : Int) (a0 : S38) (a3 : S45) : List (Nat × AV) := [(2, .t (.c (.p false (R 1 (eI .i64) 0 a2)))), (4, .ptr 256 0), (7, .ptr 448 0), (9, .t (.c (.p true (iI v8))))]
def spec_PlanFault.x1H (a2 : List Int) (v8 : Int) (a0 : S38) (a3 : S45) : List (Nat × Content) := [(256, .box 38 [.p false (iI a0.f0), .p false (iI a0.f1), .p false (.sc (.string a0.f2))]), (448, .box 45 [.p false (iI a3.f0), .p false (iI a3.f1), .p false (R 1 e72 z72 a3.f2)])]
def spec_PlanFault.l1 : Nat → S45 → Int → S38 → Int → Option (Int ⊕ Unit)
  | 0, _, _, _, _ => none
  | kq + 1, a3, v8, a0, v10 => if v10 < (((rdD z72 a3.f2 v8).f0).length : Int) then (if 0 ≤ v10 then ((spec_FreeAt.f kq a0 (rdD 0 ((rdD z72 a3.f2 v8).f0) v10)).bind fun t11 => if t11 = true then (if 0 < v10 then (if 0 ≤ (w64 (v10 - 1)) then (if (w64 (v10 - 1)) < (((rdD z72 a3.f2 v8).f0).length : Int) then (if (rdD 0 ((rdD z72 a3.f2 v8).f0) v10) = (rdD 0 ((rdD z72 a3.f2 v8).f0) (w64 (v10 - 1))) then (spec_PlanFault.l1 kq a3 v8 a0 (w64 (v10 + 1))) else ((spec_Beside.f kq a0 (rdD 0 ((rdD z72 a3.f2 v8).f0) (w64 (v10 - 1))) (rdD 0 ((rdD z72 a3.f2 v8).f0) v10)).bind fun t12 => if t12 = true then (spec_PlanFault.l1 kq a3 v8 a0 (w64 (v10 + 1))) else (some (.inl 3)))) else none) else none) else (spec_PlanFault.l1 kq a3 v8 a0 (w64 (v10 + 1)))) else (some (.inl 3))) else none) else (some (.inr ()))
def spec_PlanFault.h0T (a2 : List Int) (v8 : Int) (a0 : S38) (a3 : S45) : List (Nat × AV) := [(2, .t (.c (.p false (R 1 (eI .i64) 0 a2)))), (4, .ptr 256 0), (7, .ptr 448 0), (9, .t (.c (.p true (iI v8))))]
def spec_PlanFault.h0H (a2 : List Int) (v8 : Int) (a0 : S38) (a3 : S45) : List (Nat × Content) := [(256, .box 38 [.p false (iI a0.f0), .p false (iI a0.f1), .p false (.sc (.string a0.f2))]), (448, .box 45 [.p false (iI a3.f0), .p false (iI a3.f1), .p false (R 1 e72 z72 a3.f2)])]
def spec_PlanFault.x0T (a2 : List Int) (a3 : S45) : List (Nat × AV) := [(2, .t (.c (.p false (R 1 (eI .i64) 0 a2)))), (7, .ptr 448 0)]
def spec_PlanFault.x0H (a2 : List Int) (a3 : S45) : List (Nat × Content) := [(448, .box 45 [.p false (iI a3.f0), .p false (iI a3.f1), .p false (R 1 e72 z72 a3.f2)])]
def spec_PlanFault.l0 : Nat → S45 → S38 → Int → Option (Int ⊕ Unit)
  | 0, _, _, _ => none
  | kq + 1, a3, a0, v8 => if v8 < (a3.f2.length : Int) then (if 0 ≤ v8 then ((spec_PlanFault.l1 kq a3 v8 a0 0).bind fun x42 => match x42 with | .inl r => some (.inl r) | .inr y13 => (spec_PlanFault.l0 kq a3 a0 (w64 (v8 + 1)))) else none) else (some (.inr ()))
def spec_PlanFault.h3T (a2 : List Int) (v27 : Int) (v31 : Int) (a3 : S45) : List (Nat × AV) := [(2, .t (.c (.p false (R 1 (eI .i64) 0 a2)))), (7, .ptr 448 0), (12, .t (.c (.p true (iI v27)))), (13, .t (.c (.p true (iI v31))))]
def spec_PlanFault.h3H (a2 : List Int) (v27 : Int) (v31 : Int) (a3 : S45) : List (Nat × Content) := [(448, .box 45 [.p false (iI a3.f0), .p false (iI a3.f1), .p false (R 1 e72 z72 a3.f2)])]
def spec_PlanFault.x3T (a2 : List Int) (v27 : Int) (a3 : S45) : List (Nat × AV) := [(2, .t (.c (.p false (R 1 (eI .i64) 0 a2)))), (7, .ptr 448 0), (12, .t (.c (.p true (iI v27))))]
def spec_PlanFault.x3H (a2 : List Int) (v27 : Int) (a3 : S45) : List (Nat × Content) := [(448, .box 45 [.p false (iI a3.f0), .p false (iI a3.f1), .p false (R 1 e72 z72 a3.f2)])]
def spec_PlanFault.l3 : Nat → S45 → Int → Int → Option (Int ⊕ Unit)
  | 0, _, _, _ => none
  | kq + 1, a3, v27, v31 => if v31 < a3.f0 then (if v27 = 4 then ((spec_MeetAt.f kq a3.f2 v31).bind fun t32 => if t32 = true then (some (.inl v27)) else (if v27 = 5 then ((spec_SwapsAt.f kq a3.f2 v31).bind fun t33 => if 0 < t33 then (some (.inl v27)) else (if v27 = 6 then ((spec_RingsAt.f kq a3.f2 v31).bind fun t34 => if 0 < t34 then (some (.inl v27)) else (spec_PlanFault.l3 kq a3 v27 (w64 (v31 + 1)))) else (spec_PlanFault.l3 kq a3 v27 (w64 (v31 + 1))))) else (if v27 = 6 then ((spec_RingsAt.f kq a3.f2 v31).bind fun t35 => if 0 < t35 then (some (.inl v27)) else (spec_PlanFault.l3 kq a3 v27 (w64 (v31 + 1)))) else (spec_PlanFault.l3 kq a3 v27 (w64 (v31 + 1)))))) else (if v27 = 5 then ((spec_SwapsAt.f kq a3.f2 v31).bind fun t36 => if 0 < t36 then (some (.inl v27)) else (if v27 = 6 then ((spec_RingsAt.f kq a3.f2 v31).bind fun t37 => if 0 < t37 then (some (.inl v27)) else (spec_PlanFault.l3 kq a3 v27 (w64 (v31 + 1)))) else (spec_PlanFault.l3 kq a3 v27 (w64 (v31 + 1))))) else (if v27 = 6 then ((spec_RingsAt.f kq a3.f2 v31).bind fun t38 => if 0 < t38 then (some (.inl v27)) else (spec_PlanFault.l3 kq a3 v27 (w64 (v31 + 1)))) else (spec_PlanFault.l3 kq a3 v27 (w64 (v31 + 1)))))) else (some (.inr ()))
def spec_PlanFault.h2T (a2 : List Int) (v27 : Int) (a3 : S45) : List (Nat × AV) := [(2, .t (.c (.p false (R 1 (eI .i64) 0 a2)))), (7, .ptr 448 0), (12, .t (.c (.p true (iI v27))))]
def spec_PlanFault.h2H (a2 : List Int) (v27 : Int) (a3 : S45) : List (Nat × Content) := [(448, .box 45 [.p false (iI a3.f0), .p false (iI a3.f1), .p false (R 1 e72 z72 a3.f2)])]
def spec_PlanFault.x2T (a2 : List Int) (a3 : S45) : List (Nat × AV) := [(2, .t (.c (.p false (R 1 (eI .i64) 0 a2)))), (7, .ptr 448 0)]
def spec_PlanFault.x2H (a2 : List Int) (a3 : S45) : List (Nat × Content) := [(448, .box 45 [.p false (iI a3.f0), .p false (iI a3.f1), .p false (R 1 e72 z72 a3.f2)])]
def spec_PlanFault.l2 : Nat → S45 → Int → Option (Int ⊕ Unit)
  | 0, _, _ => none
  | kq + 1, a3, v27 => if v27 ≤ 6 then ((spec_PlanFault.l3 kq a3 v27 0).bind fun x109 => match x109 with | .inl r => some (.inl r) | .inr y39 => (spec_PlanFault.l2 kq a3 (w64 (v27 + 1)))) else (some (.inr ()))
def spec_PlanFault.h4T (a2 : List Int) (v43 : Int) (a3 : S45) (t41 : List Int) : List (Nat × AV) := [(2, .t (.c (.p false (R 1 (eI .i64) 0 a2)))), (7, .ptr 448 0), (14, .t (.c (.h 8064))), (15, .t (.c (.p true (iI v43))))]
def spec_PlanFault.h4H (a2 : List Int) (v43 : Int) (a3 : S45) (t41 : List Int) : List (Nat × Content) := [(448, .box 45 [.p false (iI a3.f0), .p false (iI a3.f1), .p false (R 1 e72 z72 a3.f2)]), (8064, .row 3 1 t41.length (fun j => (eI .i64) (t41.getD j 0)) true)]
def spec_PlanFault.l4 : Nat → List Int → List Int → S45 → Int → Option Int
  | 0, _, _, _, _ => none
  | kq + 1, a2, t41, a3, v43 => if v43 < (a2.length : Int) then (if 0 ≤ v43 then ((spec_l03Has.f kq t41 (rdD 0 a2 v43)).bind fun t44 => if t44 = true then (spec_PlanFault.l4 kq a2 t41 a3 (w64 (v43 + 1))) else (some 7)) else none) else ((spec_MovesOf.f kq a3.f2).bind fun t45 => if a3.f1 = t45 then (some 0) else (some 8))
def spec_PlanFault.f (k : Nat) (a0 : S38) (a1 : List Int) (a2 : List Int) (a3 : S45) : Option Int := (spec_AskOk.f k a0 a1 a2 a3.f0).bind fun t1 => if t1 = true then ((spec_l12Form.f k a1 a3).bind fun t2 => if t2 = true then ((spec_PlanFault.l0 k a3 a0 0).bind fun x121 => match x121 with | .inl r => some r | .inr y14 => ((spec_PlanFault.l2 k a3 4).bind fun x120 => match x120 with | .inl r => some r | .inr y40 => ((spec_EndsOf.f k a3.f2).bind fun t41 => spec_PlanFault.l4 k a2 t41 a3 0))) else (some 2)) else (some 1)
theorem spec_PlanFault.go : Callable prog 84 := ⟨_, func84, by kernel_rfl, rfl⟩
theorem spec_PlanFault.ok (k : Nat) (a0 : S38) (a1 : List Int) (a2 : List Int) (a3 : S45) (r : Int) (h : spec_PlanFault.f k a0 a1 a2 a3 = some r) : VCalls prog 84 [.agg (e38 a0), .c (R 1 (eI .i64) 0 a1), .c (R 1 (eI .i64) 0 a2), .agg (e45 a3)] [.c (.p (iI r))] := by
  unfold spec_PlanFault.f at h
  refine VCalls.of (fn := f84) (N := 146) func84 rfl rfl (fun w0 => ?_)
  obtain ⟨t1, g1, h⟩ := bindN h
  let C1 := mkCon (spec_AskOk.ok k a0 a1 a2 a3.f0 t1 g1) spec_AskOk.go
  by_cases c2 : t1 = true
  · replace h := ip c2 h
    obtain ⟨t2, g3, h⟩ := bindN h
    let C3 := mkCon (spec_l12Form.ok k a1 a3 t2 g3) spec_l12Form.go
    by_cases c4 : t2 = true
    · replace h := ip c4 h
      have H0 : ∀ (kq : Nat) (v8 : Int) (x : (Int ⊕ Unit)), spec_PlanFault.l0 kq a3 a0 v8 = some x → (match x with | .inl r' => r' = r | .inr y14 => AG prog 84 146 [.c (.p (iI r))] w0 (exitStk (codeOf f84) 0) (mkFS (spec_PlanFault.x0T a2 a3) (spec_PlanFault.x0H a2 a3))) → AG prog 84 146 [.c (.p (iI r))] w0 (headStk (codeOf f84) 0) (mkFS (spec_PlanFault.h0T a2 v8 a0 a3) (spec_PlanFault.h0H a2 v8 a0 a3)) := by
        intro kq
        induction kq with
        | zero => intro v8 x h hx; cases h
        | succ kq ih =>
          intro v8 x h hx
          rw [spec_PlanFault.l0] at h
          by_cases c23 : v8 < (a3.f2.length : Int)
          · replace h := ip c23 h
            obtain ⟨c24, h⟩ := ifN h
            have H1 : ∀ (kq : Nat) (v10 : Int) (x : (Int ⊕ Unit)), spec_PlanFault.l1 kq a3 v8 a0 v10 = some x → (match x with | .inl r' => r' = r | .inr y13 => AG prog 84 146 [.c (.p (iI r))] w0 (exitStk (codeOf f84) 1) (mkFS (spec_PlanFault.x1T a2 v8 a0 a3) (spec_PlanFault.x1H a2 v8 a0 a3))) → AG prog 84 146 [.c (.p (iI r))] w0 (headStk (codeOf f84) 1) (mkFS (spec_PlanFault.h1T a2 v8 a3 v10 a0) (spec_PlanFault.h1H a2 v8 a3 v10 a0)) := by
              intro kq
              induction kq with
              | zero => intro v10 x h hx; cases h
              | succ kq ih =>
                intro v10 x h hx
                rw [spec_PlanFault.l1] at h
                by_cases c32 : v10 < (((rdD z72 a3.f2 v8).f0).length : Int)
                · replace h := ip c32 h
                  obtain ⟨c33, h⟩ := ifN h
                  obtain ⟨t11, g34, h⟩ := bindN h
                  let C34 := mkCon (spec_FreeAt.ok kq a0 (rdD 0 ((rdD z72 a3.f2 v8).f0) v10) t11 g34) spec_FreeAt.go
                  by_cases c35 : t11 = true
                  · replace h := ip c35 h
                    by_cases c36 : 0 < v10
                    · replace h := ip c36 h
                      obtain ⟨c37, h⟩ := ifN h
                      obtain ⟨c38, h⟩ := ifN h
                      by_cases c39 : (rdD 0 ((rdD z72 a3.f2 v8).f0) v10) = (rdD 0 ((rdD z72 a3.f2 v8).f0) (w64 (v10 - 1)))
                      · replace h := ip c39 h
                        exact hd func84 [.b true, .call C34, .dec 53 false, .dec 56 true, .dec 68 false, .b false, .fin] (oT c32 (o1 c33 (o1 c32 (oc C34 (o1 (bnf c35) (oT c36 (o1 c33 (o1 c32 (o1 c37 (o1 c38 (o1 (bnf (decide_eq_true c39)) (o1 (rfl : false = false) on)))))))))))) (ih (w64 (v10 + 1)) _ h hx)
                      · replace h := iq c39 h
                        obtain ⟨t12, g40, h⟩ := bindN h
                        let C40 := mkCon (spec_Beside.ok kq a0 (rdD 0 ((rdD z72 a3.f2 v8).f0) (w64 (v10 - 1))) (rdD 0 ((rdD z72 a3.f2 v8).f0) v10) t12 g40) spec_Beside.go
                        by_cases c41 : t12 = true
                        · replace h := ip c41 h
                          exact hd func84 [.b true, .call C34, .dec 53 false, .dec 56 true, .dec 68 true, .call C40, .b false, .fin] (oT c32 (o1 c33 (o1 c32 (oc C34 (o1 (bnf c35) (oT c36 (o1 c33 (o1 c32 (o1 c37 (o1 c38 (o1 (bnt (decide_eq_false c39)) (o1 c37 (o1 c38 (o1 c33 (o1 c32 (oc C40 (o1 (bnf c41) on))))))))))))))))) (ih (w64 (v10 + 1)) _ h hx)
                        · replace h := iq c41 h
                          cases h
                          subst hx
                          exact rt func84 [.b true, .call C34, .dec 53 false, .dec 56 true, .dec 68 true, .call C40, .b true, .fin] (oT c32 (o1 c33 (o1 c32 (oc C34 (o1 (bnf c35) (oT c36 (o1 c33 (o1 c32 (o1 c37 (o1 c38 (o1 (bnt (decide_eq_false c39)) (o1 c37 (o1 c38 (o1 c33 (o1 c32 (oc C40 (oN c41 on)))))))))))))))))
                    · replace h := iq c36 h
                      exact hd func84 [.b true, .call C34, .dec 53 false, .dec 56 false, .b false, .fin] (oT c32 (o1 c33 (o1 c32 (oc C34 (o1 (bnf c35) (oF c36 (o1 (rfl : false = false) on))))))) (ih (w64 (v10 + 1)) _ h hx)
                  · replace h := iq c35 h
                    cases h
                    subst hx
                    exact rt func84 [.b true, .call C34, .dec 53 true, .b true, .fin] (oT c32 (o1 c33 (o1 c32 (oc C34 (oN c35 (oR on))))))
                · replace h := iq c32 h
                  cases h
                  exact st func84 [.b false, .fin] (oF c32 on) hx
            obtain ⟨x42, g42, h⟩ := bindN h
            cases x42 with
            | inl r' =>
              cases h
              exact hd func84 [.b true, .fin] (oT c23 (o1 c24 (o1 c23 on))) (H1 kq 0 _ g42 hx)
            | inr y13 =>
              refine hd func84 [.b true, .fin] (oT c23 (o1 c24 (o1 c23 on))) (H1 kq 0 _ g42 ?_)
              show AG prog 84 146 [.c (.p (iI r))] w0 (exitStk (codeOf f84) 1) (mkFS (spec_PlanFault.x1T a2 v8 a0 a3) (spec_PlanFault.x1H a2 v8 a0 a3))
              exact hd func84 [.fin] on (ih (w64 (v8 + 1)) _ h hx)
          · replace h := iq c23 h
            cases h
            exact st func84 [.b false, .fin] (oF c23 on) hx
      obtain ⟨x121, g121, h⟩ := bindN h
      cases x121 with
      | inl r' =>
        exact hd func84 [.call C1, .b false, .call C3, .b false, .fin] (oc C1 (o1 (bnf c2) (oc C3 (o1 (bnf c4) on)))) (H0 k 0 _ g121 (Option.some.inj h))
      | inr y14 =>
        refine hd func84 [.call C1, .b false, .call C3, .b false, .fin] (oc C1 (o1 (bnf c2) (oc C3 (o1 (bnf c4) on)))) (H0 k 0 _ g121 ?_)
        show AG prog 84 146 [.c (.p (iI r))] w0 (exitStk (codeOf f84) 0) (mkFS (spec_PlanFault.x0T a2 a3) (spec_PlanFault.x0H a2 a3))
        have H2 : ∀ (kq : Nat) (v27 : Int) (x : (Int ⊕ Unit)), spec_PlanFault.l2 kq a3 v27 = some x → (match x with | .inl r' => r' = r | .inr y40 => AG prog 84 146 [.c (.p (iI r))] w0 (exitStk (codeOf f84) 2) (mkFS (spec_PlanFault.x2T a2 a3) (spec_PlanFault.x2H a2 a3))) → AG prog 84 146 [.c (.p (iI r))] w0 (headStk (codeOf f84) 2) (mkFS (spec_PlanFault.h2T a2 v27 a3) (spec_PlanFault.h2H a2 v27 a3)) := by
          intro kq
          induction kq with
          | zero => intro v27 x h hx; cases h
          | succ kq ih =>
            intro v27 x h hx
            rw [spec_PlanFault.l2] at h
            by_cases c76 : v27 ≤ 6
            · replace h := ip c76 h
              have H3 : ∀ (kq : Nat) (v31 : Int) (x : (Int ⊕ Unit)), spec_PlanFault.l3 kq a3 v27 v31 = some x → (match x with | .inl r' => r' = r | .inr y39 => AG prog 84 146 [.c (.p (iI r))] w0 (exitStk (codeOf f84) 3) (mkFS (spec_PlanFault.x3T a2 v27 a3) (spec_PlanFault.x3H a2 v27 a3))) → AG prog 84 146 [.c (.p (iI r))] w0 (headStk (codeOf f84) 3) (mkFS (spec_PlanFault.h3T a2 v27 v31 a3) (spec_PlanFault.h3H a2 v27 v31 a3)) := by
                intro kq
                induction kq with
                | zero => intro v31 x h hx; cases h
                | succ kq ih =>
                  intro v31 x h hx
                  rw [spec_PlanFault.l3] at h
                  by_cases c87 : v31 < a3.f0
                  · replace h := ip c87 h
                    by_cases c88 : v27 = 4
                    · replace h := ip c88 h
                      obtain ⟨t32, g89, h⟩ := bindN h
                      let C89 := mkCon (spec_MeetAt.ok kq a3.f2 v31 t32 g89) spec_MeetAt.go
                      by_cases c90 : t32 = true
                      · replace h := ip c90 h
                        cases h
                        subst hx
                        exact rt func84 [.b true, .dec 95 true, .call C89, .dec 101 true, .b true, .fin] (oT c87 (oT c88 (oc C89 (o1 c90 (oR on)))))
                      · replace h := iq c90 h
                        by_cases c91 : v27 = 5
                        · replace h := ip c91 h
                          obtain ⟨t33, g92, h⟩ := bindN h
                          let C92 := mkCon (spec_SwapsAt.ok kq a3.f2 v31 t33 g92) spec_SwapsAt.go
                          by_cases c93 : 0 < t33
                          · replace h := ip c93 h
                            cases h
                            subst hx
                            exact rt func84 [.b true, .dec 95 true, .call C89, .dec 101 false, .dec 104 true, .call C92, .dec 112 true, .b true, .fin] (oT c87 (oT c88 (oc C89 (o1 (eqf c90) (oT c91 (oc C92 (oT c93 (oR on))))))))
                          · replace h := iq c93 h
                            by_cases c94 : v27 = 6
                            · replace h := ip c94 h
                              obtain ⟨t34, g95, h⟩ := bindN h
                              let C95 := mkCon (spec_RingsAt.ok kq a3.f2 v31 t34 g95) spec_RingsAt.go
                              by_cases c96 : 0 < t34
                              · replace h := ip c96 h
                                cases h
                                subst hx
                                exact rt func84 [.b true, .dec 95 true, .call C89, .dec 101 false, .dec 104 true, .call C92, .dec 112 false, .dec 115 true, .call C95, .b true, .fin] (oT c87 (oT c88 (oc C89 (o1 (eqf c90) (oT c91 (oc C92 (oF c93 (oT c94 (oc C95 (oT c96 on))))))))))
                              · replace h := iq c96 h
                                exact hd func84 [.b true, .dec 95 true, .call C89, .dec 101 false, .dec 104 true, .call C92, .dec 112 false, .dec 115 true, .call C95, .b false, .fin] (oT c87 (oT c88 (oc C89 (o1 (eqf c90) (oT c91 (oc C92 (oF c93 (oT c94 (oc C95 (oF c96 on)))))))))) (ih (w64 (v31 + 1)) _ h hx)
                            · replace h := iq c94 h
                              exact hd func84 [.b true, .dec 95 true, .call C89, .dec 101 false, .dec 104 true, .call C92, .dec 112 false, .dec 115 false, .b false, .fin] (oT c87 (oT c88 (oc C89 (o1 (eqf c90) (oT c91 (oc C92 (oF c93 (oF c94 (o1 (rfl : false = false) on))))))))) (ih (w64 (v31 + 1)) _ h hx)
                        · replace h := iq c91 h
                          by_cases c97 : v27 = 6
                          · replace h := ip c97 h
                            obtain ⟨t35, g98, h⟩ := bindN h
                            let C98 := mkCon (spec_RingsAt.ok kq a3.f2 v31 t35 g98) spec_RingsAt.go
                            by_cases c99 : 0 < t35
                            · replace h := ip c99 h
                              cases h
                              subst hx
                              exact rt func84 [.b true, .dec 95 true, .call C89, .dec 101 false, .dec 104 false, .dec 115 true, .call C98, .b true, .fin] (oT c87 (oT c88 (oc C89 (o1 (eqf c90) (oF c91 (oT c97 (oc C98 (oT c99 on))))))))
                            · replace h := iq c99 h
                              exact hd func84 [.b true, .dec 95 true, .call C89, .dec 101 false, .dec 104 false, .dec 115 true, .call C98, .b false, .fin] (oT c87 (oT c88 (oc C89 (o1 (eqf c90) (oF c91 (oT c97 (oc C98 (oF c99 on)))))))) (ih (w64 (v31 + 1)) _ h hx)
                          · replace h := iq c97 h
                            exact hd func84 [.b true, .dec 95 true, .call C89, .dec 101 false, .dec 104 false, .dec 115 false, .b false, .fin] (oT c87 (oT c88 (oc C89 (o1 (eqf c90) (oF c91 (oF c97 (o1 (rfl : false = false) on))))))) (ih (w64 (v31 + 1)) _ h hx)
                    · replace h := iq c88 h
                      by_cases c100 : v27 = 5
                      · replace h := ip c100 h
                        obtain ⟨t36, g101, h⟩ := bindN h
                        let C101 := mkCon (spec_SwapsAt.ok kq a3.f2 v31 t36 g101) spec_SwapsAt.go
                        by_cases c102 : 0 < t36
                        · replace h := ip c102 h
                          cases h
                          subst hx
                          exact rt func84 [.b true, .dec 95 false, .dec 104 true, .call C101, .dec 112 true, .b true, .fin] (oT c87 (oF c88 (oT c100 (oc C101 (oT c102 (oR on))))))
                        · replace h := iq c102 h
                          by_cases c103 : v27 = 6
                          · replace h := ip c103 h
                            obtain ⟨t37, g104, h⟩ := bindN h
                            let C104 := mkCon (spec_RingsAt.ok kq a3.f2 v31 t37 g104) spec_RingsAt.go
                            by_cases c105 : 0 < t37
                            · replace h := ip c105 h
                              cases h
                              subst hx
                              exact rt func84 [.b true, .dec 95 false, .dec 104 true, .call C101, .dec 112 false, .dec 115 true, .call C104, .b true, .fin] (oT c87 (oF c88 (oT c100 (oc C101 (oF c102 (oT c103 (oc C104 (oT c105 on))))))))
                            · replace h := iq c105 h
                              exact hd func84 [.b true, .dec 95 false, .dec 104 true, .call C101, .dec 112 false, .dec 115 true, .call C104, .b false, .fin] (oT c87 (oF c88 (oT c100 (oc C101 (oF c102 (oT c103 (oc C104 (oF c105 on)))))))) (ih (w64 (v31 + 1)) _ h hx)
                          · replace h := iq c103 h
                            exact hd func84 [.b true, .dec 95 false, .dec 104 true, .call C101, .dec 112 false, .dec 115 false, .b false, .fin] (oT c87 (oF c88 (oT c100 (oc C101 (oF c102 (oF c103 (o1 (rfl : false = false) on))))))) (ih (w64 (v31 + 1)) _ h hx)
                      · replace h := iq c100 h
                        by_cases c106 : v27 = 6
                        · replace h := ip c106 h
                          obtain ⟨t38, g107, h⟩ := bindN h
                          let C107 := mkCon (spec_RingsAt.ok kq a3.f2 v31 t38 g107) spec_RingsAt.go
                          by_cases c108 : 0 < t38
                          · replace h := ip c108 h
                            cases h
                            subst hx
                            exact rt func84 [.b true, .dec 95 false, .dec 104 false, .dec 115 true, .call C107, .b true, .fin] (oT c87 (oF c88 (oF c100 (oT c106 (oc C107 (oT c108 on))))))
                          · replace h := iq c108 h
                            exact hd func84 [.b true, .dec 95 false, .dec 104 false, .dec 115 true, .call C107, .b false, .fin] (oT c87 (oF c88 (oF c100 (oT c106 (oc C107 (oF c108 on)))))) (ih (w64 (v31 + 1)) _ h hx)
                        · replace h := iq c106 h
                          exact hd func84 [.b true, .dec 95 false, .dec 104 false, .dec 115 false, .b false, .fin] (oT c87 (oF c88 (oF c100 (oF c106 (o1 (rfl : false = false) on))))) (ih (w64 (v31 + 1)) _ h hx)
                  · replace h := iq c87 h
                    cases h
                    exact st func84 [.b false, .fin] (oF c87 on) hx
              obtain ⟨x109, g109, h⟩ := bindN h
              cases x109 with
              | inl r' =>
                cases h
                exact hd func84 [.b true, .fin] (oT c76 on) (H3 kq 0 _ g109 hx)
              | inr y39 =>
                refine hd func84 [.b true, .fin] (oT c76 on) (H3 kq 0 _ g109 ?_)
                show AG prog 84 146 [.c (.p (iI r))] w0 (exitStk (codeOf f84) 3) (mkFS (spec_PlanFault.x3T a2 v27 a3) (spec_PlanFault.x3H a2 v27 a3))
                exact hd func84 [.fin] on (ih (w64 (v27 + 1)) _ h hx)
            · replace h := iq c76 h
              cases h
              exact st func84 [.b false, .fin] (oF c76 on) hx
        obtain ⟨x120, g120, h⟩ := bindN h
        cases x120 with
        | inl r' =>
          exact hd func84 [.fin] on (H2 k 4 _ g120 (Option.some.inj h))
        | inr y40 =>
          refine hd func84 [.fin] on (H2 k 4 _ g120 ?_)
          show AG prog 84 146 [.c (.p (iI r))] w0 (exitStk (codeOf f84) 2) (mkFS (spec_PlanFault.x2T a2 a3) (spec_PlanFault.x2H a2 a3))
          obtain ⟨t41, g110, h⟩ := bindN h
          let C110 := mkCon (spec_EndsOf.ok k a3.f2 t41 g110) spec_EndsOf.go
          have H4 : ∀ (kq : Nat) (v43 : Int), spec_PlanFault.l4 kq a2 t41 a3 v43 = some r → AG prog 84 146 [.c (.p (iI r))] w0 (headStk (codeOf f84) 4) (mkFS (spec_PlanFault.h4T a2 v43 a3 t41) (spec_PlanFault.h4H a2 v43 a3 t41)) := by
            intro kq
            induction kq with
            | zero => intro v43 h; cases h
            | succ kq ih =>
              intro v43 h
              rw [spec_PlanFault.l4] at h
              by_cases c114 : v43 < (a2.length : Int)
              · replace h := ip c114 h
                obtain ⟨c115, h⟩ := ifN h
                obtain ⟨t44, g116, h⟩ := bindN h
                let C116 := mkCon (spec_l03Has.ok kq t41 (rdD 0 a2 v43) t44 g116) spec_l03Has.go
                by_cases c117 : t44 = true
                · replace h := ip c117 h
                  exact hd func84 [.b true, .call C116, .b false, .fin] (oT c114 (o1 c115 (o1 c114 (oc C116 (o1 (bnf c117) on))))) (ih (w64 (v43 + 1)) h)
                · replace h := iq c117 h
                  cases h
                  exact rt func84 [.b true, .call C116, .b true, .fin] (oT c114 (o1 c115 (o1 c114 (oc C116 (oN c117 on)))))
              · replace h := iq c114 h
                obtain ⟨t45, g118, h⟩ := bindN h
                let C118 := mkCon (spec_MovesOf.ok kq a3.f2 t45 g118) spec_MovesOf.go
                by_cases c119 : a3.f1 = t45
                · replace h := ip c119 h
                  cases h
                  exact rt func84 [.b false, .fin, .call C118, .b false, .fin] (oF c114 (oc C118 (o1 (bnf (decide_eq_true c119)) on)))
                · replace h := iq c119 h
                  cases h
                  exact rt func84 [.b false, .fin, .call C118, .b true, .fin] (oF c114 (oc C118 (o1 (bnt (decide_eq_false c119)) on)))
          exact hd func84 [.call C110, .fin] (oc C110 on) (H4 k 0 h)
    · replace h := iq c4 h
      cases h
      exact rt func84 [.call C1, .b false, .call C3, .b true, .fin] (oc C1 (o1 (bnf c2) (oc C3 (oN c4 on))))
  · replace h := iq c2 h
    cases h
    exact rt func84 [.call C1, .b true, .fin] (oc C1 (oN c2 on))
end Go.Proofs.YtoaknaceaghclaaGreat.V
