/- The law FnExactSetupOk over numbers and lists alone: it answers true for every input; no condition beside the bounds of the kinds. -/
import Derived.Test.YtpkffapjplebgaaPFnExactSetupOkx
import Derived.Test.YtpkffapjplebgaaOpFnExactSetupOk
namespace Go.Proofs.Ytpkffapjplebgaa.Pure
open Go.RowKit Go.Proofs.Ytpkffapjplebgaa.PFnExactSetupOk Go.Proofs.YtpkffapjplebgaaW.PrintWords Go.Proofs.YtpkffapjplebgaaW.PrintLast Go.Proofs.Ytpkffapjplebgaa
set_option linter.unusedVariables false
set_option linter.unusedSimpArgs false

theorem w64 {x : Int} (h1 : -9223372036854775808 ≤ x) (h2 : x ≤ 9223372036854775807) : wrap64 x = x := by unfold wrap64; omega
theorem wnat {i : Nat} (h : i < 4611686018427387904) : wrap64 ((i : Int) + 1) = ((i + 1 : Nat) : Int) := by unfold wrap64; omega
theorem ksucc {k d : Nat} (h : d < k) : ∃ m, k = m + 1 := ⟨k - 1, by omega⟩

/-! frames -/
theorem l01In_eq (a b c : Int) : spec_l01In.f a b c = some (decide (b ≤ a ∧ a ≤ c)) := by
  unfold spec_l01In.f
  by_cases h : a ≥ b
  · rw [if_pos h]; simp [show b ≤ a from h]
  · rw [if_neg h]; simp [show ¬ b ≤ a from h]

/-! a grid's rule -/
def kindB (c : Int) : Bool := decide (c = 46 ∨ c = 35 ∨ (97 ≤ c ∧ c ≤ 102) ∨ (65 ≤ c ∧ c ≤ 70))
def cellsB (s : ByteArray) : Bool := (List.range' 0 s.size).all fun i => kindB (bt s (i : Nat))
def gridB (w h : Int) (s : ByteArray) : Bool := decide (((1 ≤ w ∧ w ≤ 8) ∧ (1 ≤ h ∧ h ≤ 8)) ∧ (s.size : Int) = w * h) && cellsB s
theorem mul_rng {w h : Int} (h1 : 1 ≤ w ∧ w ≤ 8) (h2 : 1 ≤ h ∧ h ≤ 8) : 1 ≤ w * h ∧ w * h ≤ 64 := by
  obtain ⟨a, b⟩ := h1
  obtain ⟨c, d⟩ := h2
  constructor
  · exact Int.le_trans (by omega : (1 : Int) ≤ 1 * 1) (Int.mul_le_mul a c (by omega) (by omega))
  · exact Int.mul_le_mul b d (by omega) (by omega)
theorem l02Kind_eq (c : Int) : spec_l02Kind.f c = some (kindB c) := by
  unfold spec_l02Kind.f kindB
  repeat' split
  all_goals first | exact congrArg some (decide_eq_decide.2 (by omega)) | (rw [decide_eq_true (by omega)]; done) | (rw [decide_eq_false (by omega)]; done)
theorem specGrid_l (w h : Int) (s : ByteArray) (hb : s.size ≤ 1048576) : ∀ (d i k : Nat), i + d = s.size → d < k →
    spec_GridOk.l0 k (i : Int) w h s = some ((List.range' i d).all fun j => kindB (bt s (j : Nat))) := by
  intro d
  induction d with
  | zero =>
    intro i k h1 hk
    obtain ⟨k, rfl⟩ := ksucc hk
    rw [spec_GridOk.l0, if_neg (by omega)]; rfl
  | succ d ih =>
    intro i k h1 hk
    obtain ⟨k, rfl⟩ := ksucc hk
    rw [spec_GridOk.l0, if_pos (by omega), if_pos (by omega), l02Kind_eq, wnat (by omega)]
    simp only [Option.bind_some]
    rw [List.range'_succ, List.all_cons]
    cases hc : kindB (bt s (i : Int))
    · simp
    · rw [if_pos rfl, ih (i + 1) k (by omega) (by omega)]; rfl
theorem implGrid_l (w h : Int) (s : ByteArray) (hb : s.size ≤ 1048576) : ∀ (d i k : Nat), i + d = s.size → d < k →
    impl_GridOk.l0 k (i : Int) w h s = some ((List.range' i d).all fun j => kindB (bt s (j : Nat))) := by
  intro d
  induction d with
  | zero =>
    intro i k h1 hk
    obtain ⟨k, rfl⟩ := ksucc hk
    rw [impl_GridOk.l0, if_neg (by omega)]; rfl
  | succ d ih =>
    intro i k h1 hk
    obtain ⟨k, rfl⟩ := ksucc hk
    rw [impl_GridOk.l0, if_pos (by omega), if_pos (by omega), wnat (by omega), ih (i + 1) k (by omega) (by omega)]
    rw [List.range'_succ, List.all_cons]
    generalize (List.range' (i + 1) d).all (fun j => kindB (bt s (j : Nat))) = X
    have hk2 : kindB (bt s (i : Int)) = decide (bt s i = 46 ∨ bt s i = 35 ∨ (97 ≤ bt s i ∧ bt s i ≤ 102) ∨ (65 ≤ bt s i ∧ bt s i ≤ 70)) := rfl
    rw [hk2]
    generalize bt s (i : Int) = c
    repeat' split
    all_goals (first | (rw [decide_eq_true (by omega), Bool.true_and]; done) | (rw [decide_eq_false (by omega), Bool.false_and]; done))
theorem specGrid_ev (w h : Int) (s : ByteArray) (hb : s.size ≤ 1048576) (k : Nat) (hk : s.size + 2 ≤ k) : spec_GridOk.f k w h s = some (gridB w h s) := by
  obtain ⟨k, rfl⟩ := ksucc (show 0 < k by omega)
  unfold spec_GridOk.f gridB
  simp only [l01In_eq, Option.bind_some, decide_eq_true_eq]
  by_cases h1 : 1 ≤ w ∧ w ≤ 8
  · rw [if_pos h1]
    by_cases h2 : 1 ≤ h ∧ h ≤ 8
    · have := mul_rng h1 h2
      rw [if_pos h2, w64 (by omega) (by omega), spec_GridOk.j0]
      by_cases h3 : (s.size : Int) = w * h
      · rw [if_neg (by simp [h3]), decide_eq_true ⟨⟨h1, h2⟩, h3⟩, Bool.true_and]
        exact specGrid_l w h s hb s.size 0 k (by omega) (by omega)
      · rw [if_pos (by simp [h3]), decide_eq_false (fun h => h3 h.2), Bool.false_and]
    · rw [if_neg h2, spec_GridOk.j0, if_pos rfl, decide_eq_false (fun h => h2 h.1.2), Bool.false_and]
  · rw [if_neg h1, spec_GridOk.j0, if_pos rfl, decide_eq_false (fun h => h1 h.1.1), Bool.false_and]
theorem implGrid_ev (w h : Int) (s : ByteArray) (hb : s.size ≤ 1048576) (k : Nat) (hk : s.size + 2 ≤ k) : impl_GridOk.f k w h s = some (gridB w h s) := by
  obtain ⟨k, rfl⟩ := ksucc (show 0 < k by omega)
  unfold impl_GridOk.f gridB
  have bad : ∀ p : Prop, [Decidable p] → ¬ p → impl_GridOk.j0 (k + 1) true w h s = some (decide p && cellsB s) := by
    intro p _ hp
    rw [impl_GridOk.j0, if_pos rfl, decide_eq_false hp, Bool.false_and]
  by_cases h1 : w < 1
  · rw [if_pos h1]; exact bad _ (fun h => by omega)
  rw [if_neg h1]
  by_cases h2 : w > 8
  · rw [if_pos h2]; exact bad _ (fun h => by omega)
  rw [if_neg h2]
  by_cases h3 : h < 1
  · rw [if_pos h3]; exact bad _ (fun h => by omega)
  rw [if_neg h3]
  by_cases h4 : h > 8
  · rw [if_pos h4]; exact bad _ (fun h => by omega)
  rw [if_neg h4]
  have g1 : 1 ≤ w ∧ w ≤ 8 := by omega
  have g2 : 1 ≤ h ∧ h ≤ 8 := by omega
  have := mul_rng g1 g2
  rw [w64 (by omega) (by omega), impl_GridOk.j0]
  by_cases h5 : (s.size : Int) = w * h
  · rw [if_neg (by simp [h5]), decide_eq_true ⟨⟨g1, g2⟩, h5⟩, Bool.true_and]
    exact implGrid_l w h s hb s.size 0 k (by omega) (by omega)
  · rw [if_pos (by simp [h5]), decide_eq_false (fun h => h5 h.2), Bool.false_and]

/-! a setup's rule -/
theorem specWin_eq (a b : Int) : spec_WindowNew.f a b = some (if (1 ≤ a ∧ a ≤ 8) ∧ (1 ≤ b ∧ b ≤ 100) then (a, b, List.replicate (a * 6).toNat 0, true) else (0, 0, [], false)) := by
  unfold spec_WindowNew.f
  simp only [l01In_eq, Option.bind_some, decide_eq_true_eq]
  by_cases h1 : 1 ≤ a ∧ a ≤ 8
  · rw [if_pos h1]
    by_cases h2 : 1 ≤ b ∧ b ≤ 100
    · rw [if_pos h2, w64 (by omega) (by omega), if_pos (by omega), if_pos (by omega), if_pos ⟨h1, h2⟩]
    · rw [if_neg h2, if_neg (fun h => h2 h.2)]
  · rw [if_neg h1, if_neg (fun h => h1 h.1)]
theorem implWin_eq (a b : Int) : impl_WindowNew.f a b = some (if (1 ≤ a ∧ a ≤ 8) ∧ (1 ≤ b ∧ b ≤ 100) then (a, b, List.replicate (a * 6).toNat 0, true) else (0, 0, [], false)) := by
  unfold impl_WindowNew.f
  by_cases h : (1 ≤ a ∧ a ≤ 8) ∧ (1 ≤ b ∧ b ≤ 100)
  · rw [if_pos h, if_neg (by omega), if_neg (by omega), if_neg (by omega), if_neg (by omega), w64 (by omega) (by omega), if_pos (by omega), if_pos (by omega)]
  · rw [if_neg h]
    repeat' split
    all_goals first | rfl | (exfalso; omega)
def setupB (w h : Int) (s : ByteArray) (p b c z : Int) : Bool := gridB w h s && decide ((1 ≤ p ∧ p ≤ 20) ∧ ((1 ≤ b ∧ b ≤ 8) ∧ (1 ≤ c ∧ c ≤ 100)) ∧ (0 ≤ z ∧ z ≤ 20))
theorem specSetup_ev (w h : Int) (s : ByteArray) (p b c z : Int) (hb : s.size ≤ 1048576) (k : Nat) (hk : s.size + 2 ≤ k) : spec_SetupOk.f k w h s p b c z = some (setupB w h s p b c z) := by
  unfold spec_SetupOk.f setupB
  rw [specWin_eq, specGrid_ev w h s hb k hk]
  simp only [Option.bind_some, l01In_eq, decide_eq_true_eq]
  cases gridB w h s
  · rfl
  · rw [if_pos rfl, Bool.true_and]
    by_cases h1 : 1 ≤ p ∧ p ≤ 20
    · rw [if_pos h1]
      by_cases h2 : (1 ≤ b ∧ b ≤ 8) ∧ (1 ≤ c ∧ c ≤ 100)
      · rw [if_pos h2, if_pos rfl]
        exact congrArg some (decide_eq_decide.2 ⟨fun g => ⟨h1, h2, g⟩, fun g => g.2.2⟩)
      · rw [if_neg h2, if_neg (by simp), decide_eq_false (fun g => h2 g.2.1)]
    · rw [if_neg h1, decide_eq_false (fun g => h1 g.1)]
theorem implSetup_ev (w h : Int) (s : ByteArray) (p b c z : Int) (hb : s.size ≤ 1048576) (k : Nat) (hk : s.size + 2 ≤ k) : impl_SetupOk.f k w h s p b c z = some (setupB w h s p b c z) := by
  unfold impl_SetupOk.f setupB
  rw [implWin_eq, implGrid_ev w h s hb k hk]
  simp only [Option.bind_some]
  cases gridB w h s
  · rfl
  · rw [if_pos rfl, Bool.true_and]
    by_cases h1 : p ≥ 1
    · rw [if_pos h1]
      by_cases h1' : p ≤ 20
      · rw [if_pos h1']
        by_cases h2 : (1 ≤ b ∧ b ≤ 8) ∧ (1 ≤ c ∧ c ≤ 100)
        · rw [if_pos h2, if_pos rfl]
          by_cases h3 : z ≥ 0
          · rw [if_pos h3]
            exact congrArg some (decide_eq_decide.2 ⟨fun g => ⟨⟨h1, h1'⟩, h2, h3, g⟩, fun g => g.2.2.2⟩)
          · rw [if_neg h3, decide_eq_false (fun g => h3 g.2.2.1)]
        · rw [if_neg h2, if_neg (by simp), decide_eq_false (fun g => h2 g.2.1)]
      · rw [if_neg h1', decide_eq_false (fun g => h1' g.1.2)]
    · rw [if_neg h1, decide_eq_false (fun g => h1 g.1.1)]

theorem FnExactSetupOk : OpFnExactSetupOk.Pure := by
  intro y ok
  have hs : y.f0.f2.size ≤ 140737488351232 := ok.1.2.2
  refine ⟨y.f0.f2.size + 2, ?_⟩
  unfold laws_FnExactSetupOk.f laws_szSetup.f laws_szGrid.f
  rw [w64 (by omega) (by omega)]
  by_cases h1 : 1048576 - (y.f0.f2.size : Int) < 0
  · rw [if_pos h1]; simp
  · rw [if_neg h1]
    simp only [Option.bind_some]
    rw [if_neg h1]
    simp only [Option.bind_some]
    rw [if_neg h1]
    simp only [laws_toSetup.f, laws_toGrid.f, Option.bind_some]
    rw [specSetup_ev _ _ _ _ _ _ _ (by omega) _ (by omega), implSetup_ev _ _ _ _ _ _ _ (by omega) _ (by omega)]
    simp

end Go.Proofs.Ytpkffapjplebgaa.Pure
