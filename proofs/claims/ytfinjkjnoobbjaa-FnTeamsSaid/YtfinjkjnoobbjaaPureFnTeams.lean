/- The law FnTeams over numbers and lists alone: it answers true for every input; no condition beside the bounds of the kinds. -/
import Derived.Test.YtfinjkjnoobbjaaMFnTeamsx
namespace Go.Proofs.Ytfinjkjnoobbjaa.Pure
open Go.RowKit Go.Proofs.Ytfinjkjnoobbjaa.MFnTeams Go.Proofs.YtfinjkjnoobbjaaW.PrintWords Go.Proofs.YtfinjkjnoobbjaaW.PrintLast
set_option linter.unusedVariables false
set_option linter.unusedSimpArgs false

theorem w64 {x : Int} (h1 : -9223372036854775808 ≤ x) (h2 : x ≤ 9223372036854775807) : wrap64 x = x := by unfold wrap64; omega
theorem wnat {i : Nat} (h : i < 4611686018427387904) : wrap64 ((i : Int) + 1) = ((i + 1 : Nat) : Int) := by unfold wrap64; omega
theorem ksucc {k d : Nat} (h : d < k) : ∃ m, k = m + 1 := ⟨k - 1, by omega⟩

/-! frames -/
theorem l01In_eq (a b c : Int) : spec_l01In.f a b c = some (decide (b ≤ a ∧ a ≤ c)) := by
  unfold spec_l01In.f
  by_cases h : a ≥ b
  · rw [if_pos h]; simp [show b ≤ a from h]
  · rw [if_neg h]; simp [show ¬ b ≤ a from h]

/-! a grid's rule -/
def kindB (c : Int) : Bool := decide (c = 46 ∨ c = 35 ∨ (97 ≤ c ∧ c ≤ 102) ∨ (65 ≤ c ∧ c ≤ 70))
def cellsB (s : ByteArray) : Bool := (List.range' 0 s.size).all fun i => kindB (bt s (i : Nat))
def gridB (w h : Int) (s : ByteArray) : Bool := decide (((1 ≤ w ∧ w ≤ 8) ∧ (1 ≤ h ∧ h ≤ 8)) ∧ (s.size : Int) = w * h) && cellsB s
theorem mul_rng {w h : Int} (h1 : 1 ≤ w ∧ w ≤ 8) (h2 : 1 ≤ h ∧ h ≤ 8) : 1 ≤ w * h ∧ w * h ≤ 64 := by
  obtain ⟨a, b⟩ := h1
  obtain ⟨c, d⟩ := h2
  constructor
  · exact Int.le_trans (by omega : (1 : Int) ≤ 1 * 1) (Int.mul_le_mul a c (by omega) (by omega))
  · exact Int.mul_le_mul b d (by omega) (by omega)
theorem l02Kind_eq (c : Int) : spec_l02Kind.f c = some (kindB c) := by
  unfold spec_l02Kind.f kindB
  repeat' split
  all_goals first | exact congrArg some (decide_eq_decide.2 (by omega)) | (rw [decide_eq_true (by omega)]; done) | (rw [decide_eq_false (by omega)]; done)
theorem specGrid_l (w h : Int) (s : ByteArray) (hb : s.size ≤ 1048576) : ∀ (d i k : Nat), i + d = s.size → d < k →
    spec_GridOk.l0 k (i : Int) w h s = some ((List.range' i d).all fun j => kindB (bt s (j : Nat))) := by
  intro d
  induction d with
  | zero =>
    intro i k h1 hk
    obtain ⟨k, rfl⟩ := ksucc hk
    rw [spec_GridOk.l0, if_neg (by omega)]; rfl
  | succ d ih =>
    intro i k h1 hk
    obtain ⟨k, rfl⟩ := ksucc hk
    rw [spec_GridOk.l0, if_pos (by omega), if_pos (by omega), l02Kind_eq, wnat (by omega)]
    simp only [Option.bind_some]
    rw [List.range'_succ, List.all_cons]
    cases hc : kindB (bt s (i : Int))
    · simp
    · rw [if_pos rfl, ih (i + 1) k (by omega) (by omega)]; rfl
theorem implGrid_l (w h : Int) (s : ByteArray) (hb : s.size ≤ 1048576) : ∀ (d i k : Nat), i + d = s.size → d < k →
    impl_GridOk.l0 k (i : Int) w h s = some ((List.range' i d).all fun j => kindB (bt s (j : Nat))) := by
  intro d
  induction d with
  | zero =>
    intro i k h1 hk
    obtain ⟨k, rfl⟩ := ksucc hk
    rw [impl_GridOk.l0, if_neg (by omega)]; rfl
  | succ d ih =>
    intro i k h1 hk
    obtain ⟨k, rfl⟩ := ksucc hk
    rw [impl_GridOk.l0, if_pos (by omega), if_pos (by omega), wnat (by omega), ih (i + 1) k (by omega) (by omega)]
    rw [List.range'_succ, List.all_cons]
    generalize (List.range' (i + 1) d).all (fun j => kindB (bt s (j : Nat))) = X
    have hk2 : kindB (bt s (i : Int)) = decide (bt s i = 46 ∨ bt s i = 35 ∨ (97 ≤ bt s i ∧ bt s i ≤ 102) ∨ (65 ≤ bt s i ∧ bt s i ≤ 70)) := rfl
    rw [hk2]
    generalize bt s (i : Int) = c
    repeat' split
    all_goals (first | (rw [decide_eq_true (by omega), Bool.true_and]; done) | (rw [decide_eq_false (by omega), Bool.false_and]; done))
theorem specGrid_ev (w h : Int) (s : ByteArray) (hb : s.size ≤ 1048576) (k : Nat) (hk : s.size + 2 ≤ k) : spec_GridOk.f k w h s = some (gridB w h s) := by
  obtain ⟨k, rfl⟩ := ksucc (show 0 < k by omega)
  unfold spec_GridOk.f gridB
  simp only [l01In_eq, Option.bind_some, decide_eq_true_eq]
  by_cases h1 : 1 ≤ w ∧ w ≤ 8
  · rw [if_pos h1]
    by_cases h2 : 1 ≤ h ∧ h ≤ 8
    · have := mul_rng h1 h2
      rw [if_pos h2, w64 (by omega) (by omega), spec_GridOk.j0]
      by_cases h3 : (s.size : Int) = w * h
      · rw [if_neg (by simp [h3]), decide_eq_true ⟨⟨h1, h2⟩, h3⟩, Bool.true_and]
        exact specGrid_l w h s hb s.size 0 k (by omega) (by omega)
      · rw [if_pos (by simp [h3]), decide_eq_false (fun h => h3 h.2), Bool.false_and]
    · rw [if_neg h2, spec_GridOk.j0, if_pos rfl, decide_eq_false (fun h => h2 h.1.2), Bool.false_and]
  · rw [if_neg h1, spec_GridOk.j0, if_pos rfl, decide_eq_false (fun h => h1 h.1.1), Bool.false_and]
theorem implGrid_ev (w h : Int) (s : ByteArray) (hb : s.size ≤ 1048576) (k : Nat) (hk : s.size + 2 ≤ k) : impl_GridOk.f k w h s = some (gridB w h s) := by
  obtain ⟨k, rfl⟩ := ksucc (show 0 < k by omega)
  unfold impl_GridOk.f gridB
  have bad : ∀ p : Prop, [Decidable p] → ¬ p → impl_GridOk.j0 (k + 1) true w h s = some (decide p && cellsB s) := by
    intro p _ hp
    rw [impl_GridOk.j0, if_pos rfl, decide_eq_false hp, Bool.false_and]
  by_cases h1 : w < 1
  · rw [if_pos h1]; exact bad _ (fun h => by omega)
  rw [if_neg h1]
  by_cases h2 : w > 8
  · rw [if_pos h2]; exact bad _ (fun h => by omega)
  rw [if_neg h2]
  by_cases h3 : h < 1
  · rw [if_pos h3]; exact bad _ (fun h => by omega)
  rw [if_neg h3]
  by_cases h4 : h > 8
  · rw [if_pos h4]; exact bad _ (fun h => by omega)
  rw [if_neg h4]
  have g1 : 1 ≤ w ∧ w ≤ 8 := by omega
  have g2 : 1 ≤ h ∧ h ≤ 8 := by omega
  have := mul_rng g1 g2
  rw [w64 (by omega) (by omega), impl_GridOk.j0]
  by_cases h5 : (s.size : Int) = w * h
  · rw [if_neg (by simp [h5]), decide_eq_true ⟨⟨g1, g2⟩, h5⟩, Bool.true_and]
    exact implGrid_l w h s hb s.size 0 k (by omega) (by omega)
  · rw [if_pos (by simp [h5]), decide_eq_false (fun h => h5 h.2), Bool.false_and]

/-! free cells -/
def freeB (s : ByteArray) (c : Int) : Bool := decide (0 ≤ c ∧ c < s.size) && (bt s c != 35)
theorem specFree_ev (w h : Int) (s : ByteArray) (c : Int) (hb : s.size ≤ 1048576) (k : Nat) (hk : s.size + 2 ≤ k) : spec_FreeAt.f k w h s c = some (gridB w h s && freeB s c) := by
  unfold spec_FreeAt.f freeB
  rw [specGrid_ev w h s hb k hk]
  simp only [Option.bind_some]
  cases gridB w h s
  · simp
  · by_cases h1 : 0 ≤ c
    · by_cases h2 : c < (s.size : Int)
      · simp [h1, h2]
      · simp [h1, h2]
    · simp [h1]
theorem implFree_ev (w h : Int) (s : ByteArray) (c : Int) : impl_isFree.f w h s c = some (freeB s c) := by
  unfold impl_isFree.f freeB
  by_cases h1 : 0 ≤ c
  · by_cases h2 : c < (s.size : Int)
    · simp [h1, h2]
    · simp [h1, h2]
  · simp [h1]

theorem rdN (xs : List Int) (i : Nat) (h : i < xs.length) : rd xs (i : Int) = xs[i] := by simp [rd, List.getD, h]

/-! the cells around a cell, and the steps from one cell -/
def aroundL (w h : Int) (s : ByteArray) (c : Int) : List Int :=
  (if freeB s (c - w) = true then [c - w] else []) ++ (if 0 < Int.tmod c w ∧ freeB s (c - 1) = true then [c - 1] else []) ++ (if Int.tmod c w < w - 1 ∧ freeB s (c + 1) = true then [c + 1] else []) ++ (if freeB s (c + w) = true then [c + w] else [])
theorem freeB_rng {s : ByteArray} {c : Int} (h : freeB s c = true) : 0 ≤ c ∧ c < s.size := by
  unfold freeB at h
  rw [Bool.and_eq_true] at h
  exact of_decide_eq_true h.1
theorem freeB_neg (s : ByteArray) {c : Int} (h : c < 0) : freeB s c = false := by
  cases hf : freeB s c
  · rfl
  · have := (freeB_rng hf).1; omega
theorem aroundL_mem {w h : Int} {s : ByteArray} {c t : Int} (hw : 1 ≤ w) (ht : t ∈ aroundL w h s c) : freeB s t = true ∧ t ≠ c := by
  unfold aroundL at ht
  simp only [List.mem_append] at ht
  rcases ht with ((ht | ht) | ht) | ht
  · split at ht
    · rw [List.mem_singleton] at ht; subst ht; exact ⟨by assumption, by omega⟩
    · simp at ht
  · split at ht
    · rename_i hh; rw [List.mem_singleton] at ht; subst ht; exact ⟨hh.2, by omega⟩
    · simp at ht
  · split at ht
    · rename_i hh; rw [List.mem_singleton] at ht; subst ht; exact ⟨hh.2, by omega⟩
    · simp at ht
  · split at ht
    · rw [List.mem_singleton] at ht; subst ht; exact ⟨by assumption, by omega⟩
    · simp at ht
theorem aroundL_len (w h : Int) (s : ByteArray) (c : Int) : (aroundL w h s c).length ≤ 4 := by
  unfold aroundL
  simp only [List.length_append]
  repeat' split
  all_goals simp
theorem l01In_eq' (x a b : Int) : spec_l01In.f x a b = some (decide (a ≤ x ∧ x ≤ b)) := by
  unfold spec_l01In.f
  by_cases h1 : x ≥ a
  · rw [if_pos h1]
    exact congrArg some (decide_eq_decide.2 ⟨fun g => ⟨h1, g⟩, fun g => g.2⟩)
  · rw [if_neg h1, decide_eq_false (fun g => h1 g.1)]
theorem gridB_iff {w h : Int} {s : ByteArray} (hg : gridB w h s = true) : (1 ≤ w ∧ w ≤ 8) ∧ (1 ≤ h ∧ h ≤ 8) ∧ (s.size : Int) = w * h := by
  unfold gridB at hg
  rw [Bool.and_eq_true] at hg
  have := of_decide_eq_true hg.1
  exact ⟨this.1.1, this.1.2, this.2⟩
theorem gridB_size {w h : Int} {s : ByteArray} (hg : gridB w h s = true) : 1 ≤ s.size ∧ s.size ≤ 64 := by
  obtain ⟨h1, h2, h3⟩ := gridB_iff hg
  have := mul_rng h1 h2
  omega
theorem cellAt_ev (w h : Int) (s : ByteArray) (hg : gridB w h s = true) (x y : Int) (hx : -2 ≤ x ∧ x ≤ 100) (hy : -2 ≤ y ∧ y ≤ 100) (k : Nat) (hk : s.size + 2 ≤ k) :
    spec_CellAt.f k w h s x y = some (if (0 ≤ x ∧ x ≤ w - 1) ∧ (0 ≤ y ∧ y ≤ h - 1) then y * w + x else -1) := by
  obtain ⟨h1, h2, h3⟩ := gridB_iff hg
  have h4 := gridB_size hg
  unfold spec_CellAt.f
  rw [specGrid_ev w h s (by omega) k hk, hg]
  simp only [Option.bind_some, if_true, l01In_eq', decide_eq_true_eq]
  rw [w64 (x := w - 1) (by omega) (by omega), w64 (x := h - 1) (by omega) (by omega)]
  by_cases hx2 : 0 ≤ x ∧ x ≤ w - 1
  · rw [if_pos hx2]
    by_cases hy2 : 0 ≤ y ∧ y ≤ h - 1
    · have hyw : 0 ≤ y * w ∧ y * w ≤ 800 := by
        constructor
        · exact Int.mul_nonneg hy2.1 (by omega)
        · have : y * w ≤ 100 * w := Int.mul_le_mul_of_nonneg_right hy.2 (by omega)
          omega
      rw [if_pos hy2, if_pos ⟨hx2, hy2⟩, w64 (x := y * w) (by omega) (by omega), w64 (by omega) (by omega)]
    · rw [if_neg hy2, if_neg (fun g => hy2 g.2)]
  · rw [if_neg hx2, if_neg (fun g => hx2 g.1)]
theorem around_filter_l (w h : Int) (s : ByteArray) (hg : gridB w h s = true) (x : List Int) (hx : x.length = 4) : ∀ (d i k : Nat) (acc : List Int), i + d = 4 → s.size + 2 + d < k → acc.length ≤ i → spec_Around.l0 k acc x (i : Int) w h s = some (acc ++ (x.drop i).filter (freeB s)) := by
  have h4 := gridB_size hg
  intro d
  induction d with
  | zero =>
    intro i k acc h hk ha
    obtain ⟨k, rfl⟩ := ksucc (show 0 < k by omega)
    rw [spec_Around.l0, if_neg (by omega), List.drop_of_length_le (by omega)]
    simp
  | succ d ih =>
    intro i k acc h' hk ha
    obtain ⟨k, rfl⟩ := ksucc (show 0 < k by omega)
    have hi : i < x.length := by omega
    rw [spec_Around.l0, if_pos (by omega), if_pos (by omega), if_pos (by omega), specFree_ev w h s _ (by omega) k (by omega), hg, List.drop_eq_getElem_cons hi, wnat (by omega)]
    have hr : rd x (i : Int) = x[i] := rdN _ i hi
    rw [hr]
    simp only [Option.bind_some, Bool.true_and]
    cases hf : freeB s x[i]
    · rw [if_neg (by simp), ih (i + 1) k acc (by omega) (by omega) (by omega), List.filter_cons_of_neg (by simp [hf])]
    · rw [if_pos rfl, if_pos (by omega), ih (i + 1) k (acc ++ [x[i]]) (by omega) (by omega) (by simp; omega), List.filter_cons_of_pos hf, List.append_assoc]
      rfl
theorem mod_div (c w : Int) (h0 : 0 ≤ c) (h1 : 1 ≤ w) : 0 ≤ Int.tmod c w ∧ Int.tmod c w < w ∧ 0 ≤ Int.tdiv c w ∧ Int.tdiv c w * w + Int.tmod c w = c ∧ Int.tdiv c w ≤ c := by
  have e1 : Int.tmod c w = c % w := Int.tmod_eq_emod_of_nonneg h0
  have e2 : Int.tdiv c w = c / w := Int.tdiv_eq_ediv_of_nonneg h0
  rw [e1, e2]
  refine ⟨Int.emod_nonneg _ (by omega), Int.emod_lt_of_pos _ (by omega), Int.ediv_nonneg h0 (by omega), ?_, ?_⟩
  · have := Int.ediv_mul_add_emod c w; omega
  · exact Int.ediv_le_self _ h0
theorem filter4 (p : Int → Bool) (a b c d : Int) : [a, b, c, d].filter p = (if p a = true then [a] else []) ++ (if p b = true then [b] else []) ++ (if p c = true then [c] else []) ++ (if p d = true then [d] else []) := by
  simp only [List.filter_cons, List.filter_nil]
  cases p a <;> cases p b <;> cases p c <;> cases p d <;> rfl
set_option maxHeartbeats 1000000 in
theorem specAround_ev (w h : Int) (s : ByteArray) (hg : gridB w h s = true) (c : Int) (hc : freeB s c = true) (k : Nat) (hk : s.size + 20 ≤ k) : spec_Around.f k w h s c = some (aroundL w h s c) := by
  obtain ⟨g1, g2, g3⟩ := gridB_iff hg
  have g4 := gridB_size hg
  have hr := freeB_rng hc
  obtain ⟨m1, m2, m3, m4, m5⟩ := mod_div c w hr.1 g1.1
  obtain ⟨x, hx⟩ : ∃ x, Int.tmod c w = x := ⟨_, rfl⟩
  obtain ⟨y, hy⟩ : ∃ y, Int.tdiv c w = y := ⟨_, rfl⟩
  have hyh : y ≤ h - 1 := by
    rw [hx, hy] at m4
    by_cases hlt : y < h
    · omega
    · have : h * w ≤ y * w := Int.mul_le_mul_of_nonneg_right (by omega) (by omega)
      have e : w * h = h * w := Int.mul_comm w h
      rw [hx] at m1
      omega
  unfold spec_Around.f spec_SpotOf.f
  rw [specFree_ev w h s c (by omega) k (by omega), specGrid_ev w h s (by omega) k (by omega), hg, hc]
  simp only [Option.bind_some, Bool.true_and, if_true]
  rw [if_neg (by omega), if_neg (by omega), if_neg (by omega)]
  simp only [Option.bind_some]
  rw [hx, hy]
  rw [hx] at m1 m2 m4
  rw [hy] at m3 m4 m5
  rw [w64 (x := y) (by omega) (by omega), w64 (x := y - 1) (by omega) (by omega), w64 (x := x - 1) (by omega) (by omega), w64 (x := x + 1) (by omega) (by omega), w64 (x := y + 1) (by omega) (by omega)]
  rw [cellAt_ev w h s hg x (y - 1) (by omega) (by omega) k (by omega), cellAt_ev w h s hg (x - 1) y (by omega) (by omega) k (by omega), cellAt_ev w h s hg (x + 1) y (by omega) (by omega) k (by omega), cellAt_ev w h s hg x (y + 1) (by omega) (by omega) k (by omega)]
  simp only [Option.bind_some]
  have hl := around_filter_l w h s hg [if (0 ≤ x ∧ x ≤ w - 1) ∧ (0 ≤ y - 1 ∧ y - 1 ≤ h - 1) then (y - 1) * w + x else -1, if (0 ≤ x - 1 ∧ x - 1 ≤ w - 1) ∧ (0 ≤ y ∧ y ≤ h - 1) then y * w + (x - 1) else -1, if (0 ≤ x + 1 ∧ x + 1 ≤ w - 1) ∧ (0 ≤ y ∧ y ≤ h - 1) then y * w + (x + 1) else -1, if (0 ≤ x ∧ x ≤ w - 1) ∧ (0 ≤ y + 1 ∧ y + 1 ≤ h - 1) then (y + 1) * w + x else -1] rfl 4 0 k [] (by omega) (by omega) (by simp)
  rw [show ((0 : Nat) : Int) = 0 from rfl] at hl
  refine hl.trans (congrArg some ?_)
  rw [List.nil_append, List.drop_zero]
  have neg1 : freeB s (-1) = false := freeB_neg s (by omega)
  have f1 : (if freeB s (if (0 ≤ x ∧ x ≤ w - 1) ∧ (0 ≤ y - 1 ∧ y - 1 ≤ h - 1) then (y - 1) * w + x else -1) = true then [if (0 ≤ x ∧ x ≤ w - 1) ∧ (0 ≤ y - 1 ∧ y - 1 ≤ h - 1) then (y - 1) * w + x else -1] else ([] : List Int)) = if freeB s (c - w) = true then [c - w] else [] := by
    by_cases h1 : 1 ≤ y
    · rw [if_pos (show (0 ≤ x ∧ x ≤ w - 1) ∧ (0 ≤ y - 1 ∧ y - 1 ≤ h - 1) by omega), show (y - 1) * w + x = c - w by rw [Int.sub_mul]; omega]
    · rw [if_neg (show ¬ ((0 ≤ x ∧ x ≤ w - 1) ∧ (0 ≤ y - 1 ∧ y - 1 ≤ h - 1)) by omega), neg1, freeB_neg s (by have h0 : y = 0 := (by omega); rw [h0] at m4; omega)]
      simp
  have f2 : (if freeB s (if (0 ≤ x - 1 ∧ x - 1 ≤ w - 1) ∧ (0 ≤ y ∧ y ≤ h - 1) then y * w + (x - 1) else -1) = true then [if (0 ≤ x - 1 ∧ x - 1 ≤ w - 1) ∧ (0 ≤ y ∧ y ≤ h - 1) then y * w + (x - 1) else -1] else ([] : List Int)) = if 0 < x ∧ freeB s (c - 1) = true then [c - 1] else [] := by
    by_cases h1 : 1 ≤ x
    · rw [if_pos (show (0 ≤ x - 1 ∧ x - 1 ≤ w - 1) ∧ (0 ≤ y ∧ y ≤ h - 1) by omega), show y * w + (x - 1) = c - 1 by omega]
      cases freeB s (c - 1)
      · simp
      · rw [if_pos rfl, if_pos ⟨by omega, rfl⟩]
    · rw [if_neg (show ¬ ((0 ≤ x - 1 ∧ x - 1 ≤ w - 1) ∧ (0 ≤ y ∧ y ≤ h - 1)) by omega), neg1, if_neg (by simp), if_neg (by omega)]
  have f3 : (if freeB s (if (0 ≤ x + 1 ∧ x + 1 ≤ w - 1) ∧ (0 ≤ y ∧ y ≤ h - 1) then y * w + (x + 1) else -1) = true then [if (0 ≤ x + 1 ∧ x + 1 ≤ w - 1) ∧ (0 ≤ y ∧ y ≤ h - 1) then y * w + (x + 1) else -1] else ([] : List Int)) = if x < w - 1 ∧ freeB s (c + 1) = true then [c + 1] else [] := by
    by_cases h1 : x < w - 1
    · rw [if_pos (show (0 ≤ x + 1 ∧ x + 1 ≤ w - 1) ∧ (0 ≤ y ∧ y ≤ h - 1) by omega), show y * w + (x + 1) = c + 1 by omega]
      cases freeB s (c + 1)
      · simp
      · rw [if_pos rfl, if_pos ⟨by omega, rfl⟩]
    · rw [if_neg (show ¬ ((0 ≤ x + 1 ∧ x + 1 ≤ w - 1) ∧ (0 ≤ y ∧ y ≤ h - 1)) by omega), neg1, if_neg (by simp), if_neg (by omega)]
  have f4 : (if freeB s (if (0 ≤ x ∧ x ≤ w - 1) ∧ (0 ≤ y + 1 ∧ y + 1 ≤ h - 1) then (y + 1) * w + x else -1) = true then [if (0 ≤ x ∧ x ≤ w - 1) ∧ (0 ≤ y + 1 ∧ y + 1 ≤ h - 1) then (y + 1) * w + x else -1] else ([] : List Int)) = if freeB s (c + w) = true then [c + w] else [] := by
    by_cases h1 : y + 1 ≤ h - 1
    · rw [if_pos (show (0 ≤ x ∧ x ≤ w - 1) ∧ (0 ≤ y + 1 ∧ y + 1 ≤ h - 1) by omega), show (y + 1) * w + x = c + w by rw [Int.add_mul]; omega]
    · have hn : freeB s (c + w) = false := by
        cases hf : freeB s (c + w)
        · rfl
        · have h5 := (freeB_rng hf).2
          have : y = h - 1 := by omega
          rw [this, Int.sub_mul] at m4
          have e : w * h = h * w := Int.mul_comm w h
          omega
      rw [if_neg (show ¬ ((0 ≤ x ∧ x ≤ w - 1) ∧ (0 ≤ y + 1 ∧ y + 1 ≤ h - 1)) by omega), neg1, hn]
      simp
  unfold aroundL
  rw [filter4, f1, f2, f3, f4, hx]
theorem implAround_ev (w h : Int) (s : ByteArray) (hg : gridB w h s = true) (c : Int) (hc : freeB s c = true) (k : Nat) (hk : s.size + 20 ≤ k) : impl_Around.f k w h s c = some (aroundL w h s c) := by
  obtain ⟨g1, g2, g3⟩ := gridB_iff hg
  have g4 := gridB_size hg
  have hr := freeB_rng hc
  obtain ⟨k, rfl⟩ : ∃ m, k = m + 4 := ⟨k - 4, by omega⟩
  have j3 : ∀ (k : Nat) (acc : List Int) (b : Bool), acc.length ≤ 2 → impl_around.j3 (k + 1) c acc b w h s = some (acc ++ (if b = true then [c + 1] else []) ++ (if freeB s (c + w) = true then [c + w] else [])) := by
    intro k acc b ha
    rw [impl_around.j3, w64 (x := c + 1) (by omega) (by omega), w64 (x := c + w) (by omega) (by omega), implFree_ev]
    cases b
    · rw [if_neg (by simp)]
      simp only [Option.bind_some]
      cases freeB s (c + w)
      · simp
      · rw [if_pos rfl, if_pos (by omega)]; simp
    · rw [if_pos rfl, if_pos (by omega)]
      simp only [Option.bind_some]
      cases freeB s (c + w)
      · simp
      · rw [if_pos rfl, if_pos (by simp; omega)]; simp
  have j2 : ∀ (k : Nat) (acc : List Int), acc.length ≤ 2 → impl_around.j2 (k + 2) c acc w h s = some (acc ++ (if Int.tmod c w < w - 1 ∧ freeB s (c + 1) = true then [c + 1] else []) ++ (if freeB s (c + w) = true then [c + w] else [])) := by
    intro k acc ha
    rw [impl_around.j2, if_neg (by omega), w64 (x := w - 1) (by omega) (by omega), w64 (x := c + 1) (by omega) (by omega), implFree_ev]
    by_cases h1 : Int.tmod c w < w - 1
    · rw [if_pos h1]
      simp only [Option.bind_some]
      rw [j3 k acc _ ha]
      simp only [h1, true_and]
    · rw [if_neg h1, j3 k acc _ ha]
      simp only [h1, false_and, if_false, Bool.false_eq_true]
  have j1 : ∀ (k : Nat) (acc : List Int) (b : Bool), acc.length ≤ 1 → impl_around.j1 (k + 3) c acc b w h s = some (acc ++ (if b = true then [c - 1] else []) ++ (if Int.tmod c w < w - 1 ∧ freeB s (c + 1) = true then [c + 1] else []) ++ (if freeB s (c + w) = true then [c + w] else [])) := by
    intro k acc b ha
    rw [impl_around.j1, w64 (x := c - 1) (by omega) (by omega)]
    cases b
    · rw [if_neg (by simp), j2 k acc (by omega)]; simp
    · rw [if_pos rfl, if_pos (by omega), j2 k _ (by simp; omega)]; simp
  have j0 : ∀ (k : Nat) (acc : List Int), acc.length ≤ 1 → impl_around.j0 (k + 4) c acc w h s = some (acc ++ (if 0 < Int.tmod c w ∧ freeB s (c - 1) = true then [c - 1] else []) ++ (if Int.tmod c w < w - 1 ∧ freeB s (c + 1) = true then [c + 1] else []) ++ (if freeB s (c + w) = true then [c + w] else [])) := by
    intro k acc ha
    rw [impl_around.j0, if_neg (by omega), w64 (x := c - 1) (by omega) (by omega), implFree_ev]
    by_cases h1 : 0 < Int.tmod c w
    · rw [if_pos (show Int.tmod c w > 0 from h1)]
      simp only [Option.bind_some]
      rw [j1 k acc _ ha]
      simp only [h1, true_and]
    · rw [if_neg (show ¬ Int.tmod c w > 0 from h1), j1 k acc _ ha]
      simp only [h1, false_and, if_false, Bool.false_eq_true]
  unfold impl_Around.f impl_around.f
  rw [implGrid_ev w h s (by omega) (k + 4) (by omega), hg]
  simp only [Option.bind_some, if_true]
  rw [implFree_ev, implFree_ev, hc, w64 (x := c - w) (by omega) (by omega)]
  simp only [Option.bind_some, if_true]
  unfold aroundL
  cases freeB s (c - w)
  · rw [if_neg (by simp), j0 k [] (by simp)]; simp
  · rw [if_pos rfl, if_pos (by simp), j0 k _ (by simp)]; simp

/-! is a number in a list -/
theorem rdH (xs : List Int) (i : Nat) (h : i < xs.length) : rd xs (i : Int) = xs[i] := by simp [rd, List.getD, h]
theorem specHas_l (xs : List Int) (x : Int) (hb : xs.length ≤ 16777216) : ∀ (d i k : Nat), i + d = xs.length → d < k → spec_l03Has.l0 k xs x (i : Int) = some ((xs.drop i).contains x) := by
  intro d
  induction d with
  | zero =>
    intro i k h hk
    obtain ⟨k, rfl⟩ := ksucc hk
    rw [spec_l03Has.l0, if_neg (by omega), List.drop_eq_nil_of_le (by omega)]
    rfl
  | succ d ih =>
    intro i k h hk
    obtain ⟨k, rfl⟩ := ksucc hk
    have hi : i < xs.length := by omega
    rw [spec_l03Has.l0, if_pos (by omega), if_pos (by omega), rdH xs i hi, wnat (by omega), ih (i + 1) k (by omega) (by omega), List.drop_eq_getElem_cons hi, List.contains_cons]
    by_cases e : xs[i] = x
    · rw [if_pos e, show (x == xs[i]) = true by simp [e]]; rfl
    · rw [if_neg e, show (x == xs[i]) = false by simpa using fun h => e h.symm, Bool.false_or]
theorem specHas_ev (xs : List Int) (x : Int) (hb : xs.length ≤ 16777216) (k : Nat) (hk : xs.length < k) : spec_l03Has.f k xs x = some (xs.contains x) := by
  have := specHas_l xs x hb xs.length 0 k (by omega) hk
  rwa [List.drop_zero] at this
theorem implIdx_l (xs : List Int) (x : Int) (hb : xs.length ≤ 16777216) : ∀ (d i k : Nat), i + d = xs.length → d < k → ∃ r, slices_Index_int_int.l0 k xs x (xs.length : Int) (i : Int) = some r ∧ decide (r ≥ 0) = (xs.drop i).contains x := by
  intro d
  induction d with
  | zero =>
    intro i k h hk
    obtain ⟨k, rfl⟩ := ksucc hk
    rw [slices_Index_int_int.l0, if_neg (by omega), List.drop_eq_nil_of_le (by omega)]
    exact ⟨-1, rfl, rfl⟩
  | succ d ih =>
    intro i k h hk
    obtain ⟨k, rfl⟩ := ksucc hk
    have hi : i < xs.length := by omega
    rw [slices_Index_int_int.l0, if_pos (by omega), if_pos (by omega), if_pos (by omega), rdH xs i hi, wnat (by omega), List.drop_eq_getElem_cons hi, List.contains_cons]
    by_cases e : x = xs[i]
    · rw [if_pos e, show (x == xs[i]) = true by simpa using e]
      exact ⟨i, rfl, by simp⟩
    · rw [if_neg e, show (x == xs[i]) = false by simpa using e, Bool.false_or]
      exact ih (i + 1) k (by omega) (by omega)
theorem implHas_ev (xs : List Int) (x : Int) (hb : xs.length ≤ 16777216) (k : Nat) (hk : xs.length < k) : slices_Contains_int_int.f k xs x = some (xs.contains x) := by
  unfold slices_Contains_int_int.f slices_Index_int_int.f
  obtain ⟨r, e, h⟩ := implIdx_l xs x hb xs.length 0 k (by omega) hk
  rw [show ((0 : Nat) : Int) = 0 from rfl] at e
  rw [e, Option.bind_some, h, List.drop_zero]

/-! texts made of numbers -/
theorem str_size (xs : List Int) : (strOfNums xs).size = xs.length := by simp [strOfNums, ByteArray.size]
theorem bt_str (xs : List Int) (i : Nat) (h : i < xs.length) (hr : 0 ≤ xs[i] ∧ xs[i] ≤ 255) : bt (strOfNums xs) (i : Int) = xs[i] := by
  have hs : (i : Int).toNat < (strOfNums xs).size := by rw [str_size]; omega
  unfold bt
  rw [dif_pos hs]
  show (((strOfNums xs).data[(i : Int).toNat]'hs).toNat : Int) = _
  simp only [strOfNums, List.getElem_toArray, List.getElem_map, Int.toNat_natCast]
  rw [UInt8.toNat_ofNat']
  omega

/-! draws -/
theorem mask255 (x : Int) : ∃ v : Nat, v ≤ 255 ∧ Go.bits .and .i64 x 255 = (v : Int) := by
  refine ⟨((BitVec.ofInt 64 x) &&& (BitVec.ofInt 64 255)).toNat, ?_, ?_⟩
  · rw [BitVec.toNat_and]
    exact Nat.le_trans Nat.and_le_right (by decide)
  · have h : ((BitVec.ofInt 64 x) &&& (BitVec.ofInt 64 255)).toNat ≤ 255 := by
      rw [BitVec.toNat_and]
      exact Nat.le_trans Nat.and_le_right (by decide)
    have e : Go.bits .and .i64 x 255 = IntKind.i64.wrap ((((BitVec.ofInt 64 x) &&& (BitVec.ofInt 64 255)).toNat : Nat) : Int) := rfl
    rw [e, IntKind.wrap_i64]
    generalize ((BitVec.ofInt 64 x) &&& (BitVec.ofInt 64 255)).toNat = n at h
    omega
theorem byte_ev (l : List Int) (hl : l.length ≤ 1048576) (i h : Int) (h0 : 0 ≤ i) (h1 : i ≤ l.length) : ∃ (v : Nat) (i' h' : Int), spec_l01Byte.f l i h = some ((v : Int), i', h') ∧ v ≤ 255 ∧ 0 ≤ i' ∧ i' ≤ l.length := by
  unfold spec_l01Byte.f
  by_cases c : i < (l.length : Int)
  · obtain ⟨v, hv, e⟩ := mask255 (wrap64 ((Go.bits .and .i64 (Go.bits .xor .i64 ((wrap64 ((wrap64 (h * 6364136223846793005)) + 1442695040888963407)) / 8589934592) ((wrap64 ((wrap64 (h * 6364136223846793005)) + 1442695040888963407)) / 35184372088832)) 255) + (wrap64 (rd l i))))
    rw [if_pos c, if_pos h0, e, w64 (x := i + 1) (by omega) (by omega)]
    exact ⟨v, _, _, rfl, hv, by omega, by omega⟩
  · obtain ⟨v, hv, e⟩ := mask255 (Go.bits .xor .i64 ((wrap64 ((wrap64 (h * 6364136223846793005)) + 1442695040888963407)) / 8589934592) ((wrap64 ((wrap64 (h * 6364136223846793005)) + 1442695040888963407)) / 35184372088832))
    rw [if_neg c, e]
    exact ⟨v, _, _, rfl, hv, h0, h1⟩
theorem below_ev (l : List Int) (hl : l.length ≤ 1048576) (i h : Int) (h0 : 0 ≤ i) (h1 : i ≤ l.length) (n : Int) (n1 : 1 ≤ n) (n2 : n ≤ 256) : ∃ (v : Nat) (i' h' : Int), spec_l01Below.f l i h n = some ((v : Int), i', h') ∧ (v : Int) < n ∧ 0 ≤ i' ∧ i' ≤ l.length := by
  obtain ⟨v, i', h', e, hv, g0, g1⟩ := byte_ev l hl i h h0 h1
  unfold spec_l01Below.f
  rw [if_neg (by omega), if_pos (by omega), e]
  simp only [Option.bind_some]
  obtain ⟨m, rfl⟩ : ∃ m : Nat, n = m := ⟨n.toNat, by omega⟩
  rw [if_neg (by omega), Int.tmod_eq_emod_of_nonneg (by omega), ← Int.natCast_emod]
  exact ⟨v % m, i', h', rfl, by have := Nat.mod_lt v (show m > 0 by omega); omega, g0, g1⟩
theorem new_l (l : List Int) (hl : l.length ≤ 1048576) : ∀ (d i k : Nat) (h : Int), i + d = l.length → 4001 - i < k → i ≤ 4000 → ∃ h', spec_l01New.l0 k l h (i : Int) = some (l, 0, h') := by
  intro d
  induction d with
  | zero =>
    intro i k h hi hk _
    obtain ⟨k, rfl⟩ := ksucc (show 0 < k by omega)
    rw [spec_l01New.l0, if_neg (by omega)]
    exact ⟨_, rfl⟩
  | succ d ih =>
    intro i k h hi hk h4
    obtain ⟨k, rfl⟩ := ksucc (show 0 < k by omega)
    rw [spec_l01New.l0, if_pos (by omega)]
    by_cases c : (i : Int) < 4000
    · rw [if_pos c, if_pos (by omega), wnat (by omega)]
      exact ih (i + 1) k _ (by omega) (by omega) (by omega)
    · rw [if_neg c]
      exact ⟨_, rfl⟩
theorem new_ev (l : List Int) (hl : l.length ≤ 1048576) (k : Nat) (hk : 4001 < k) : ∃ h, spec_l01New.f k l = some (l, 0, h) := new_l l hl l.length 0 k _ (by omega) (by omega) (by omega)

/-! a team of robots: what is drawn, and what is asked of it -/
abbrev TB := S84
/-- A robot alone, on a map. -/
def aloneT (w h : Int) (s : ByteArray) (r : TB) : Prop := (0 ≤ r.f0 ∧ r.f0 ≤ 99) ∧ freeB s r.f1 = true ∧ (r.f2 = -1 ∨ r.f2 ∈ aroundL w h s r.f1)
/-- q stands ahead of r. -/
def pairT (q r : TB) : Prop := q.f0 < r.f0 ∧ q.f1 ≠ r.f1 ∧ q.f2 ≠ r.f1 ∧ (r.f2 = -1 ∨ (q.f1 ≠ r.f2 ∧ q.f2 ≠ r.f2))
structure Team (w h : Int) (s : ByteArray) (xs : List TB) : Prop where
  grid : gridB w h s = true
  alone : ∀ r ∈ xs, aloneT w h s r
  pairs : xs.Pairwise pairT
  len : xs.length ≤ 5
theorem rdTB (xs : List TB) (i : Nat) (h : i < xs.length) : rd_T84 xs (i : Int) = xs[i] := by simp [rd_T84, List.getD, h]
theorem wf_rngT {v : Int} (h : -9223372036854775808 ≤ v ∧ v ≤ 9223372036854775807) : (Lit.int .i64 v).wf = true := by
  simp only [Lit.wf, Bool.and_eq_true, decide_eq_true_eq]
  have h1 : IntKind.min .i64 = -9223372036854775808 := by decide
  have h2 : IntKind.max .i64 = 9223372036854775807 := by decide
  rw [h1, h2]
  exact h
theorem alone_to {w h : Int} {s : ByteArray} (hg : gridB w h s = true) {r : TB} (ha : aloneT w h s r) : (0 ≤ r.f1 ∧ r.f1 < 64) ∧ (r.f2 = -1 ∨ (0 ≤ r.f2 ∧ r.f2 < 64 ∧ r.f2 ≠ r.f1)) := by
  have h4 := gridB_size hg
  have h5 := freeB_rng ha.2.1
  refine ⟨by omega, ha.2.2.imp id (fun hm => ?_)⟩
  have := aroundL_mem (gridB_iff hg).1.1 hm
  have h6 := freeB_rng this.1
  exact ⟨by omega, by omega, this.2⟩
/-- Apart, by the set that the program keeps. -/
theorem apart_l {w h : Int} {s : ByteArray} (hg : gridB w h s = true) : ∀ (l seen : List TB) (S : List Int), (∀ r ∈ seen ++ l, aloneT w h s r) → (seen ++ l).Pairwise pairT → (∀ x : Int, x ∈ S → ∃ q ∈ seen, q.f1 = x ∨ q.f2 = x) → impl_areApart.go l S = true := by
  intro l
  induction l with
  | nil => intro seen S _ _ _; rfl
  | cons r t ih =>
    intro seen S ha hp hS
    have hr := alone_to hg (ha r (by simp))
    have hpr : ∀ q ∈ seen, pairT q r := fun q hq => (List.pairwise_append.1 hp).2.2 q hq r (by simp)
    have ha' : ∀ x ∈ (seen ++ [r]) ++ t, aloneT w h s x := by intro x hx; exact ha x (by simpa using hx)
    have hp' : ((seen ++ [r]) ++ t).Pairwise pairT := by simpa using hp
    have h1 : r.f1 ∉ S := fun hm => by
      obtain ⟨q, hq, e⟩ := hS _ hm
      have := hpr q hq
      rcases e with e | e
      · exact this.2.1 e
      · exact this.2.2.1 e
    rw [impl_areApart.go, if_neg (by simpa using h1)]
    rcases hr.2 with h2 | ⟨h2, _, h3⟩
    · rw [if_pos (by omega)]
      refine ih (seen ++ [r]) (r.f1 :: S) ha' hp' ?_
      intro x hx
      rcases List.mem_cons.1 hx with rfl | hx
      · exact ⟨r, by simp, .inl rfl⟩
      · obtain ⟨q, hq, e⟩ := hS x hx
        exact ⟨q, by simp [hq], e⟩
    · have h4 : r.f2 ∉ S := fun hm => by
        obtain ⟨q, hq, e⟩ := hS _ hm
        have := (hpr q hq).2.2.2
        rcases this with e2 | ⟨e2, e3⟩
        · omega
        · rcases e with e | e
          · exact e2 e
          · exact e3 e
      rw [if_neg (by omega), if_neg h3, if_neg (by simp [h3, h4])]
      refine ih (seen ++ [r]) (r.f2 :: r.f1 :: S) ha' hp' ?_
      intro x hx
      rcases List.mem_cons.1 hx with rfl | hx
      · exact ⟨r, by simp, .inr rfl⟩
      rcases List.mem_cons.1 hx with rfl | hx
      · exact ⟨r, by simp, .inl rfl⟩
      · obtain ⟨q, hq, e⟩ := hS x hx
        exact ⟨q, by simp [hq], e⟩
theorem besideT_ev (w h : Int) (s : ByteArray) (hg : gridB w h s = true) (c t : Int) (hc : freeB s c = true) (k : Nat) (hk : 100 ≤ k) : impl_Beside.f k w h s c t = some ((aroundL w h s c).contains t) := by
  have h4 := gridB_size hg
  have hl := aroundL_len w h s c
  unfold impl_Beside.f
  rw [implAround_ev w h s hg c hc k (by omega)]
  simp only [Option.bind_some]
  rw [implHas_ev _ t (by omega) k (by omega)]
  rfl
theorem robotsOk_l {w h : Int} {s : ByteArray} {xs : List TB} (hT : Team w h s xs) : ∀ (d i k : Nat), i + d = xs.length → d + 200 ≤ k → impl_RobotsOk.l0 k xs xs (xs.length : Int) (i : Int) w h s = some true := by
  have hl := hT.len
  intro d
  induction d with
  | zero =>
    intro i k hi hk
    obtain ⟨k, rfl⟩ := ksucc (show 0 < k by omega)
    rw [impl_RobotsOk.l0, if_neg (by omega)]
    unfold impl_areApart.f
    rw [if_pos (by omega), if_pos, apart_l hT.grid xs [] [] (by simpa using hT.alone) (by simpa using hT.pairs) (by simp)]
    · rfl
    · rw [List.all_eq_true]
      intro r hr
      have := alone_to hT.grid (hT.alone r hr)
      rw [wf_rngT (by omega), wf_rngT (by omega)]; rfl
  | succ d ih =>
    intro i k hi hk
    obtain ⟨k, rfl⟩ := ksucc (show 0 < k by omega)
    have hil : i < xs.length := by omega
    have ha := hT.alone xs[i] (List.getElem_mem hil)
    have hI := ih (i + 1) k (by omega) (by omega)
    have tail : ∀ o : Option Bool, o = some true → (((impl_isFree.f w h s (xs[i].f1)).bind fun t => (if t = true then (if (xs[i].f2) = (-1) then o else ((impl_Beside.f k w h s (xs[i].f1) (xs[i].f2)).bind fun t339 => (if t339 = true then o else (some false)))) else (some false))) = some true) := by
      intro o ho
      rw [implFree_ev, ha.2.1, Option.bind_some, if_pos rfl]
      rcases ha.2.2 with h2 | h2
      · rw [if_pos h2]; exact ho
      · have hne : xs[i].f2 ≠ -1 := by have := freeB_rng (aroundL_mem (gridB_iff hT.grid).1.1 h2).1; omega
        rw [if_neg hne, besideT_ev w h s hT.grid _ _ ha.2.1 k (by omega), Option.bind_some, if_pos (by simpa using h2)]; exact ho
    rw [impl_RobotsOk.l0, if_pos (by omega), if_pos (by omega), if_pos (by omega), rdTB xs i hil, if_neg (by have := ha.1; omega), if_neg (by have := ha.1; omega), wnat (i := i) (by omega)]
    by_cases h0 : (i : Int) > 0
    · obtain ⟨j, rfl⟩ : ∃ j, i = j + 1 := ⟨i - 1, by omega⟩
      have e1 : wrap64 (((j + 1 : Nat) : Int) - 1) = (j : Int) := by rw [w64 (by omega) (by omega)]; omega
      have hp : pairT xs[j] xs[j + 1] := (List.pairwise_iff_getElem.1 hT.pairs) j (j + 1) (by omega) hil (by omega)
      rw [if_pos h0, e1, if_pos (by omega), if_pos (by omega), rdTB xs j (by omega), if_neg (by have := hp.1; omega)]
      exact tail _ hI
    · rw [if_neg h0]
      exact tail _ hI
theorem robotsOk_ev {w h : Int} {s : ByteArray} {xs : List TB} (hT : Team w h s xs) (k : Nat) (hk : 300 ≤ k) : impl_RobotsOk.f k w h s xs = some true := by
  have h4 := gridB_size hT.grid
  have hl := hT.len
  unfold impl_RobotsOk.f
  rw [implGrid_ev w h s (by omega) k (by omega), hT.grid, Option.bind_some, if_pos rfl]
  obtain ⟨k, rfl⟩ := ksucc (show 0 < k by omega)
  rw [impl_RobotsOk.j0, if_neg (by simp; omega)]
  exact robotsOk_l hT xs.length 0 k (by omega) (by omega)

/-! sorted lists, compacted -/
theorem asc_ext : ∀ {a b : List Int}, a.Pairwise (· < ·) → b.Pairwise (· < ·) → (∀ x, x ∈ a ↔ x ∈ b) → a = b
  | [], [], _, _, _ => rfl
  | [], y :: b, _, _, h => absurd ((h y).2 (by simp)) (by simp)
  | x :: a, [], _, _, h => absurd ((h x).1 (by simp)) (by simp)
  | x :: a, y :: b, ha, hb, h => by
    rw [List.pairwise_cons] at ha hb
    have hxy : x = y := by
      rcases List.mem_cons.1 ((h x).1 (by simp)) with e | h1
      · exact e
      · rcases List.mem_cons.1 ((h y).2 (by simp)) with e | h2
        · exact e.symm
        · have := hb.1 x h1; have := ha.1 y h2; omega
    subst hxy
    have := asc_ext ha.2 hb.2 (fun z => by
      have hz := h z
      simp only [List.mem_cons] at hz
      constructor
      · intro hm
        rcases hz.1 (.inr hm) with e | h3
        · have := ha.1 z hm; omega
        · exact h3
      · intro hm
        rcases hz.2 (.inr hm) with e | h3
        · have := hb.1 z hm; omega
        · exact h3)
    rw [this]
theorem comp_inv (d : Array Int) (hs : ∀ i j, i ≤ j → j < d.size → d[i]! ≤ d[j]!) : ∀ m, m ≤ d.size →
    (Lib.compactUpTo d m).Pairwise (· < ·) ∧ (∀ x, x ∈ Lib.compactUpTo d m ↔ ∃ j, j < m ∧ d[j]! = x) := by
  intro m
  induction m with
  | zero => intro _; exact ⟨by simp [Lib.compactUpTo], fun x => by simp [Lib.compactUpTo]⟩
  | succ m ih =>
    intro hm
    obtain ⟨h1, h2⟩ := ih (by omega)
    rw [Lib.compactUpTo_succ]
    by_cases hk : Lib.keeps d m = true
    · rw [if_pos hk]
      have hk' : m = 0 ∨ d[m]! ≠ d[m - 1]! := by simpa [Lib.keeps] using hk
      refine ⟨List.pairwise_append.2 ⟨h1, by simp, fun x hx y hy => ?_⟩, fun x => ?_⟩
      · rw [List.mem_singleton] at hy
        subst hy
        obtain ⟨j, hj, rfl⟩ := (h2 x).1 hx
        have a1 := hs j (m - 1) (by omega) (by omega)
        have a2 := hs (m - 1) m (by omega) (by omega)
        rcases hk' with e | e
        · omega
        · omega
      · rw [List.mem_append, List.mem_singleton, h2]
        constructor
        · rintro (⟨j, hj, e⟩ | rfl)
          · exact ⟨j, by omega, e⟩
          · exact ⟨m, by omega, rfl⟩
        · rintro ⟨j, hj, e⟩
          by_cases hjm : j = m
          · subst hjm; exact .inr e.symm
          · exact .inl ⟨j, by omega, e⟩
    · rw [if_neg hk, List.append_nil]
      have hk' : ¬ (m = 0 ∨ d[m]! ≠ d[m - 1]!) := by simpa [Lib.keeps] using hk
      refine ⟨h1, fun x => ?_⟩
      rw [h2]
      constructor
      · rintro ⟨j, hj, e⟩; exact ⟨j, by omega, e⟩
      · rintro ⟨j, hj, e⟩
        by_cases hjm : j = m
        · subst hjm
          exact ⟨j - 1, by omega, by have : d[j]! = d[j - 1]! := by by_cases h : d[j]! = d[j - 1]!; exact h; exact absurd (Or.inr h) hk'
                                     rw [← this]; exact e⟩
        · exact ⟨j, by omega, e⟩
theorem compact_sorted (l : List Int) : (Lib.compact (l.mergeSort fun x y => decide (x ≤ y))).Pairwise (· < ·) ∧ ∀ x, x ∈ Lib.compact (l.mergeSort fun x y => decide (x ≤ y)) ↔ x ∈ l := by
  obtain ⟨s, hs⟩ : ∃ s, s = l.mergeSort fun x y => decide (x ≤ y) := ⟨_, rfl⟩
  have hp : s.Pairwise (fun x y => decide (x ≤ y) = true) := by
    rw [hs]
    exact List.pairwise_mergeSort (fun a b c h1 h2 => by simp only [decide_eq_true_eq] at *; omega) (fun a b => by simp only [Bool.or_eq_true, decide_eq_true_eq]; omega) l
  have hm : ∀ x, x ∈ s ↔ x ∈ l := fun x => by rw [hs]; exact (List.mergeSort_perm l _).mem_iff
  rw [← hs]
  have hsz : s.toArray.size = s.length := by simp
  have := comp_inv s.toArray (fun i j hij hj => by
    have hj' : j < s.length := by simpa using hj
    by_cases e : i = j
    · subst e; exact Int.le_refl _
    · have h3 := List.pairwise_iff_getElem.1 hp i j (by omega) hj' (by omega)
      simp only [decide_eq_true_eq] at h3
      simpa [List.getElem!_toArray, getElem!_pos, show i < s.length by omega, hj'] using h3) s.length (by simp)
  unfold Lib.compact
  refine ⟨this.1, fun x => ?_⟩
  rw [this.2, ← hm]
  constructor
  · rintro ⟨j, hj, rfl⟩
    simp [hj]
  · intro hx
    obtain ⟨j, hj, rfl⟩ := List.mem_iff_getElem.1 hx
    exact ⟨j, hj, by simp [hj]⟩

/-! a team is drawn: a map, then robots on it -/
theorem kindB_str (xs : List Int) (hr : ∀ x ∈ xs, kindB x = true ∧ 0 ≤ x ∧ x ≤ 255) : cellsB (strOfNums xs) = true := by
  unfold cellsB
  rw [List.all_eq_true]
  intro i hi
  rw [List.mem_range'_1, str_size] at hi
  have hl : i < xs.length := by omega
  have h := hr _ (List.getElem_mem hl)
  rw [bt_str xs i hl h.2]
  exact h.1
section
variable (code : List Int) (hc : code.length ≤ 1048576)
include hc
theorem sized_l (W H : Int) (hW : 2 ≤ W ∧ W ≤ 4) (hH : 2 ≤ H ∧ H ≤ 4) (n : Nat) (hn : (n : Int) = W * H) : ∀ (d i k : Nat) (a b : Int) (acc : List Int), i + d = n → 2 * d + 5 ≤ k → acc.length = i → (∀ x ∈ acc, kindB x = true ∧ 0 ≤ x ∧ x ≤ 255) → 0 ≤ a → a ≤ code.length →
    ∃ (xs : List Int) (a' b' : Int), spec_l02Sized.l0 k W H acc (i : Int) code a b = some (W, H, strOfNums xs, a', b') ∧ xs.length = n ∧ (∀ x ∈ xs, kindB x = true ∧ 0 ≤ x ∧ x ≤ 255) ∧ 0 ≤ a' ∧ a' ≤ code.length := by
  have hn16 : n ≤ 16 := by
    have : W * H ≤ 4 * 4 := Int.mul_le_mul hW.2 hH.2 (by omega) (by omega)
    omega
  intro d
  induction d with
  | zero =>
    intro i k a b acc hi hk hl hx ha hb
    obtain ⟨k, rfl⟩ := ksucc (show 0 < k by omega)
    rw [spec_l02Sized.l0, w64 (x := W * H) (by omega) (by omega), if_neg (by omega)]
    exact ⟨acc, a, b, rfl, by omega, hx, ha, hb⟩
  | succ d ih =>
    intro i k a b acc hi hk hl hx ha hb
    obtain ⟨k, rfl⟩ := ksucc (show 0 < k by omega)
    obtain ⟨k, rfl⟩ := ksucc (show 0 < k by omega)
    have more : ∀ (k' : Nat) (y : Int) (a b : Int), 2 * d + 5 ≤ k' → kindB y = true ∧ 0 ≤ y ∧ y ≤ 255 → 0 ≤ a → a ≤ code.length → ∃ (xs : List Int) (a' b' : Int), spec_l02Sized.l0 k' W H (acc ++ [y]) (wrap64 ((i : Int) + 1)) code a b = some (W, H, strOfNums xs, a', b') ∧ xs.length = n ∧ (∀ x ∈ xs, kindB x = true ∧ 0 ≤ x ∧ x ≤ 255) ∧ 0 ≤ a' ∧ a' ≤ code.length := by
      intro k' y a b hk' hy ha hb
      rw [wnat (by omega)]
      refine ih (i + 1) k' a b (acc ++ [y]) (by omega) hk' (by simp; omega) ?_ ha hb
      intro x hm
      rcases List.mem_append.1 hm with hm | hm
      · exact hx x hm
      · rw [List.mem_singleton.1 hm]; exact hy
    obtain ⟨v, a1, b1, e1, v1, a2, a3⟩ := below_ev code hc a b ha hb 8 (by omega) (by omega)
    rw [spec_l02Sized.l0, w64 (x := W * H) (by omega) (by omega), if_pos (by omega), e1, Option.bind_some]
    simp only
    have park : ∃ (xs : List Int) (a' b' : Int), spec_l02Sized.j1 (k + 1) W H acc (i : Int) (v : Int) true code a1 b1 = some (W, H, strOfNums xs, a', b') ∧ xs.length = n ∧ (∀ x ∈ xs, kindB x = true ∧ 0 ≤ x ∧ x ≤ 255) ∧ 0 ≤ a' ∧ a' ≤ code.length := by
      obtain ⟨u, a4, b4, e4, u1, a5, a6⟩ := below_ev code hc a1 b1 a2 a3 3 (by omega) (by omega)
      rw [spec_l02Sized.j1, if_pos rfl, e4, Option.bind_some]
      simp only
      rw [if_pos (by omega), w64 (by omega) (by omega)]
      refine more k _ a4 b4 (by omega) ?_ a5 a6
      rw [show (65 + (u : Int)) % 256 = 65 + u by omega]
      exact ⟨by unfold kindB; rw [decide_eq_true_eq]; omega, by omega, by omega⟩
    by_cases h0 : (v : Int) = 0
    · rw [if_pos h0, if_pos (by omega)]
      exact more (k + 1) 35 a1 b1 (by omega) ⟨by decide, by omega, by omega⟩ a2 a3
    rw [if_neg h0]
    by_cases h1 : (v : Int) = 1
    · rw [if_pos h1, show ((v : Int) == 1) = true by simpa using h1]
      exact park
    rw [if_neg h1]
    by_cases h2 : (v : Int) = 2
    · rw [show ((v : Int) == 2) = true by simpa using h2]
      exact park
    rw [show ((v : Int) == 2) = false by simpa using h2, spec_l02Sized.j1, if_neg (by simp)]
    by_cases h3 : (v : Int) = 3
    · obtain ⟨u, a4, b4, e4, u1, a5, a6⟩ := below_ev code hc a1 b1 a2 a3 6 (by omega) (by omega)
      rw [if_pos h3, e4, Option.bind_some]
      simp only
      rw [if_pos (by omega), w64 (by omega) (by omega)]
      refine more k _ a4 b4 (by omega) ?_ a5 a6
      rw [show (97 + (u : Int)) % 256 = 97 + u by omega]
      exact ⟨by unfold kindB; rw [decide_eq_true_eq]; omega, by omega, by omega⟩
    · rw [if_neg h3, if_pos (by omega)]
      exact more k 46 a1 b1 (by omega) ⟨by decide, by omega, by omega⟩ a2 a3
theorem right_ev (a b : Int) (ha : 0 ≤ a) (hb : a ≤ code.length) (k : Nat) (hk : 200 ≤ k) : ∃ (w h : Int) (s : ByteArray) (a' b' : Int), spec_l02Right.f k code a b = some (w, h, s, a', b') ∧ gridB w h s = true ∧ 0 ≤ a' ∧ a' ≤ code.length := by
  unfold spec_l02Right.f
  obtain ⟨u, a1, b1, e1, u1, a2, a3⟩ := below_ev code hc a b ha hb 3 (by omega) (by omega)
  rw [e1, Option.bind_some]
  simp only
  obtain ⟨v, a4, b4, e4, v1, a5, a6⟩ := below_ev code hc a1 b1 a2 a3 3 (by omega) (by omega)
  rw [e4, Option.bind_some]
  simp only
  rw [w64 (x := 2 + (u : Int)) (by omega) (by omega), w64 (x := 2 + (v : Int)) (by omega) (by omega)]
  have hp : 1 ≤ (2 + (u : Int)) * (2 + (v : Int)) ∧ (2 + (u : Int)) * (2 + (v : Int)) ≤ 64 := mul_rng (by omega) (by omega)
  obtain ⟨xs, a7, b7, e7, x1, x2, x3, x4⟩ := sized_l code hc (2 + (u : Int)) (2 + (v : Int)) (by omega) (by omega) ((2 + (u : Int)) * (2 + (v : Int))).toNat (by omega) ((2 + (u : Int)) * (2 + (v : Int))).toNat 0 k a4 b4 [] (by omega) (by omega) rfl (by simp) a5 a6
  unfold spec_l02Sized.f
  rw [show ((0 : Nat) : Int) = 0 from rfl] at e7
  rw [e7, Option.bind_some]
  refine ⟨2 + (u : Int), 2 + (v : Int), strOfNums xs, a7, b7, rfl, ?_, x3, x4⟩
  unfold gridB
  rw [kindB_str xs x2, Bool.and_true, decide_eq_true_eq, str_size, x1]
  exact ⟨⟨by omega, by omega⟩, by omega⟩
end
theorem nodup_le : ∀ {a b : List Int}, a.Nodup → (∀ x ∈ a, x ∈ b) → a.length ≤ b.length
  | [], b, _, _ => Nat.zero_le _
  | x :: a, b, hn, hs => by
    rw [List.nodup_cons] at hn
    have hx : x ∈ b := hs x (by simp)
    have h1 := nodup_le (b := b.erase x) hn.2 (fun y hy => (List.mem_erase_of_ne (fun e => hn.1 (by rw [← e]; exact hy))).2 (hs y (by simp [hy])))
    have h2 := List.length_erase_of_mem hx
    have h3 := List.length_pos_of_mem hx
    simp only [List.length_cons]
    omega
theorem freeCells_l (w h : Int) (s : ByteArray) (hg : gridB w h s = true) : ∀ (d i k : Nat) (acc : List Int), i + d = s.size → 2 * d + 100 ≤ k → acc.length ≤ i → (∀ x ∈ acc, freeB s x = true) → acc.Pairwise (· < ·) → (∀ x ∈ acc, x < (i : Int)) →
    ∃ r : List Int, spec_FreeCells.l0 k acc (i : Int) w h s = some r ∧ r.length ≤ 64 ∧ (∀ x ∈ r, freeB s x = true) ∧ r.Pairwise (· < ·) := by
  have h4 := gridB_size hg
  intro d
  induction d with
  | zero =>
    intro i k acc hi hk hl hx hp hlt
    obtain ⟨k, rfl⟩ := ksucc (show 0 < k by omega)
    obtain ⟨k, rfl⟩ := ksucc (show 0 < k by omega)
    rw [spec_FreeCells.l0, if_neg (by omega), spec_FreeCells.j1, if_neg (by simp)]
    exact ⟨acc, rfl, by omega, hx, hp⟩
  | succ d ih =>
    intro i k acc hi hk hl hx hp hlt
    obtain ⟨k, rfl⟩ := ksucc (show 0 < k by omega)
    obtain ⟨k, rfl⟩ := ksucc (show 0 < k by omega)
    rw [spec_FreeCells.l0, if_pos (by omega), spec_FreeCells.j1, if_pos (by simp; omega), specFree_ev w h s _ (by omega) k (by omega), hg, Bool.true_and, Option.bind_some, wnat (by omega)]
    cases hf : freeB s (i : Int)
    · rw [if_neg (by simp)]
      exact ih (i + 1) k acc (by omega) (by omega) (by omega) hx hp (fun x hm => by have := hlt x hm; omega)
    · rw [if_pos rfl, if_pos (by omega)]
      refine ih (i + 1) k (acc ++ [(i : Int)]) (by omega) (by omega) (by simp; omega) ?_ ?_ ?_
      · intro x hm
        rcases List.mem_append.1 hm with hm | hm
        · exact hx x hm
        · rw [List.mem_singleton.1 hm]; exact hf
      · rw [List.pairwise_append]
        exact ⟨hp, by simp, fun x hm y hy => by rw [List.mem_singleton.1 hy]; exact hlt x hm⟩
      · intro x hm
        rcases List.mem_append.1 hm with hm | hm
        · have := hlt x hm; omega
        · rw [List.mem_singleton.1 hm]; omega
theorem some_l1 (x8 code : List Int) (a b : Int) (cells : List Int) (hb : cells.length ≤ 64) (h8 : x8.length ≤ 64) : ∀ (d i k : Nat) (acc : List Int), i + d = cells.length → d + 200 ≤ k → acc.length ≤ i →
    spec_l04Some.l1 k cells x8 acc (i : Int) code a b = some (acc ++ (cells.drop i).filter (fun x => x8.contains x), a, b) := by
  intro d
  induction d with
  | zero =>
    intro i k acc hi hk hl
    obtain ⟨k, rfl⟩ := ksucc (show 0 < k by omega)
    rw [spec_l04Some.l1, if_neg (by omega), List.drop_eq_nil_of_le (by omega)]
    simp
  | succ d ih =>
    intro i k acc hi hk hl
    obtain ⟨k, rfl⟩ := ksucc (show 0 < k by omega)
    have hil : i < cells.length := by omega
    rw [spec_l04Some.l1, if_pos (by omega), if_pos (by omega), specHas_ev x8 _ (by omega) k (by omega), Option.bind_some, wnat (by omega), rdN cells i hil, List.drop_eq_getElem_cons hil]
    cases hc : x8.contains cells[i]
    · rw [if_neg (by simp), ih (i + 1) k acc (by omega) (by omega) (by omega), List.filter_cons_of_neg (by rw [hc]; simp)]
    · rw [if_pos rfl, if_pos (by omega), ih (i + 1) k _ (by omega) (by omega) (by simp; omega), List.filter_cons_of_pos hc, List.append_assoc]
      rfl
theorem some_l0 (code : List Int) (hc : code.length ≤ 1048576) (n : Int) (hn : n ≤ 5) (cells : List Int) (hb : cells.length ≤ 64) (hp : cells.Pairwise (· < ·)) : ∀ (d i k : Nat) (a b : Int) (x8 : List Int), i + d = 5 → d + 400 ≤ k → x8.length ≤ i → 0 ≤ a → a ≤ code.length →
    ∃ (r : List Int) (a' b' : Int), spec_l04Some.l0 k n cells x8 (i : Int) code a b = some (r, a', b') ∧ r.length ≤ 5 ∧ (∀ x ∈ r, x ∈ cells) ∧ 0 ≤ a' ∧ a' ≤ code.length := by
  have fin : ∀ (k : Nat) (a b : Int) (x8 : List Int), 300 ≤ k → x8.length ≤ 5 → 0 ≤ a → a ≤ code.length → ∃ (r : List Int) (a' b' : Int), spec_l04Some.j1 k cells x8 code a b = some (r, a', b') ∧ r.length ≤ 5 ∧ (∀ x ∈ r, x ∈ cells) ∧ 0 ≤ a' ∧ a' ≤ code.length := by
    intro k a b x8 hk h8 ha hb'
    obtain ⟨k, rfl⟩ := ksucc (show 0 < k by omega)
    have e := some_l1 x8 code a b cells hb (by omega) cells.length 0 k [] (by omega) (by omega) (by simp)
    rw [show ((0 : Nat) : Int) = 0 from rfl, List.drop_zero, List.nil_append] at e
    refine ⟨_, a, b, by rw [spec_l04Some.j1]; exact e, ?_, fun x hx => (List.mem_filter.1 hx).1, ha, hb'⟩
    have hnd : (cells.filter fun x => x8.contains x).Nodup := (hp.filter _).imp (fun h => by omega)
    have := nodup_le (b := x8) hnd (fun x hx => by simpa using (List.mem_filter.1 hx).2)
    omega
  intro d
  induction d with
  | zero =>
    intro i k a b x8 hi hk h8 ha hb'
    obtain ⟨k, rfl⟩ := ksucc (show 0 < k by omega)
    rw [spec_l04Some.l0, if_neg (by omega)]
    exact fin k a b x8 (by omega) (by omega) ha hb'
  | succ d ih =>
    intro i k a b x8 hi hk h8 ha hb'
    obtain ⟨k, rfl⟩ := ksucc (show 0 < k by omega)
    rw [spec_l04Some.l0]
    by_cases h1 : (i : Int) < n
    · rw [if_pos h1]
      by_cases h2 : (cells.length : Int) > 0
      · obtain ⟨v, a1, b1, e1, v1, a2, a3⟩ := below_ev code hc a b ha hb' (cells.length : Int) (by omega) (by omega)
        rw [if_pos h2, e1, Option.bind_some]
        simp only
        rw [if_pos (by omega), if_pos (by omega), if_pos (by omega), wnat (by omega)]
        exact ih (i + 1) k a1 b1 _ (by omega) (by omega) (by simp; omega) a2 a3
      · rw [if_neg h2]
        exact fin k a b x8 (by omega) (by omega) ha hb'
    · rw [if_neg h1]
      exact fin k a b x8 (by omega) (by omega) ha hb'
theorem some_ev (code : List Int) (hc : code.length ≤ 1048576) (w h : Int) (s : ByteArray) (hg : gridB w h s = true) (n : Int) (hn : n ≤ 5) (a b : Int) (ha : 0 ≤ a) (hb : a ≤ code.length) (k : Nat) (hk : 600 ≤ k) :
    ∃ (r : List Int) (a' b' : Int), spec_l04Some.f k code a b w h s n = some (r, a', b') ∧ r.length ≤ 5 ∧ (∀ x ∈ r, freeB s x = true) ∧ 0 ≤ a' ∧ a' ≤ code.length := by
  have h4 := gridB_size hg
  obtain ⟨cells, e1, c1, c2, c3⟩ := freeCells_l w h s hg s.size 0 k [] (by omega) (by omega) (by simp) (by simp) (by simp) (by simp)
  unfold spec_l04Some.f spec_FreeCells.f
  rw [show ((0 : Nat) : Int) = 0 from rfl] at e1
  rw [e1, Option.bind_some]
  obtain ⟨r, a', b', e2, r1, r2, r3, r4⟩ := some_l0 code hc n hn cells c1 c3 5 0 k a b [] (by omega) (by omega) (by simp) ha hb
  exact ⟨r, a', b', e2, r1, fun x hx => c2 x (r2 x hx), r3, r4⟩
theorem holder_l (xs : List TB) (hb : xs.length ≤ 1000) (c : Int) (hc : 0 ≤ c) : ∀ (d i k : Nat), i + d = xs.length → 2 * d + 5 ≤ k → ∃ z, spec_HolderOf.l0 k xs c (i : Int) = some z ∧ (z < 0 → (∀ r ∈ xs, 0 ≤ r.f0) → ∀ q ∈ xs.drop i, q.f1 ≠ c ∧ q.f2 ≠ c) := by
  intro d
  induction d with
  | zero =>
    intro i k hi hk
    obtain ⟨k, rfl⟩ := ksucc (show 0 < k by omega)
    obtain ⟨k, rfl⟩ := ksucc (show 0 < k by omega)
    rw [spec_HolderOf.l0, if_neg (by omega), spec_HolderOf.j1, if_neg (by simp)]
    exact ⟨-1, rfl, fun _ _ q hq => by rw [List.drop_eq_nil_of_le (by omega)] at hq; simp at hq⟩
  | succ d ih =>
    intro i k hi hk
    obtain ⟨k, rfl⟩ := ksucc (show 0 < k by omega)
    obtain ⟨k, rfl⟩ := ksucc (show 0 < k by omega)
    have hil : i < xs.length := by omega
    rw [spec_HolderOf.l0, if_pos (by omega), spec_HolderOf.j1, if_pos (by simpa using hc), if_pos (by omega), if_pos (by omega), rdTB xs i hil, wnat (by omega), List.drop_eq_getElem_cons hil]
    by_cases h1 : xs[i].f1 = c
    · rw [if_pos h1]
      exact ⟨_, rfl, fun hz ha => by have := ha _ (List.getElem_mem hil); omega⟩
    rw [if_neg h1]
    by_cases h2 : xs[i].f2 = c
    · rw [if_pos h2]
      exact ⟨_, rfl, fun hz ha => by have := ha _ (List.getElem_mem hil); omega⟩
    rw [if_neg h2]
    obtain ⟨z, e, hz⟩ := ih (i + 1) k (by omega) (by omega)
    refine ⟨z, e, fun h0 ha q hq => ?_⟩
    rcases List.mem_cons.1 hq with rfl | hq
    · exact ⟨h1, h2⟩
    · exact hz h0 ha q hq
theorem once_ev (l : List Int) (hl : l.length ≤ 1048576) (i h : Int) (h0 : 0 ≤ i) (h1 : i ≤ l.length) (n : Int) (n1 : 1 ≤ n) (n2 : n ≤ 256) : ∃ (v : Bool) (i' h' : Int), spec_l01Once.f l i h n = some (v, i', h') ∧ 0 ≤ i' ∧ i' ≤ l.length := by
  obtain ⟨v, i', h', e, _, g0, g1⟩ := below_ev l hl i h h0 h1 n n1 n2
  unfold spec_l01Once.f
  rw [e, Option.bind_some]
  exact ⟨_, i', h', rfl, g0, g1⟩
theorem team_l (code : List Int) (hc : code.length ≤ 1048576) (w h : Int) (s : ByteArray) (hg : gridB w h s = true) (cells : List Int) (hl : cells.length ≤ 5) (hf : ∀ x ∈ cells, freeB s x = true) :
    ∀ (d i k : Nat) (a b : Int) (out : List TB) (v : Int), i + d = cells.length → d * 10 + 1000 ≤ k → out.length ≤ i → (∀ r ∈ out, aloneT w h s r) → out.Pairwise pairT → (∀ r ∈ out, r.f0 ≤ v) → 0 ≤ v → v ≤ 5 * i → 0 ≤ a → a ≤ code.length →
    ∃ (xs : List TB) (a' b' : Int), spec_l20Right.l0 k out cells v (i : Int) code a b w h s = some (xs, a', b') ∧ Team w h s xs := by
  have h4 := gridB_size hg
  intro d
  induction d with
  | zero =>
    intro i k a b out v hi hk ho h1 h2 h3 v0 v1 ha hb
    obtain ⟨k, rfl⟩ := ksucc (show 0 < k by omega)
    rw [spec_l20Right.l0, if_neg (by omega)]
    exact ⟨out, a, b, rfl, ⟨hg, h1, h2, by omega⟩⟩
  | succ d ih =>
    intro i k a b out v hi hk ho h1 h2 h3 v0 v1 ha hb
    obtain ⟨k, rfl⟩ := ksucc (show 0 < k by omega)
    have hil : i < cells.length := by omega
    have hid : ∀ r ∈ out, 0 ≤ r.f0 := fun r hr => (h1 r hr).1.1
    rw [spec_l20Right.l0, if_pos (by omega)]
    obtain ⟨u, a1, b1, e1, u1, a2, a3⟩ := below_ev code hc a b ha hb 5 (by omega) (by omega)
    rw [e1, Option.bind_some]
    simp only
    rw [w64 (x := (i : Int) * 7) (by omega) (by omega), w64 (x := (i : Int) * 7 + 3) (by omega) (by omega), w64 (x := v + 1) (by omega) (by omega), w64 (x := v + 1 + (u : Int)) (by omega) (by omega), if_neg (by omega), wnat (i := i) (by omega)]
    obtain ⟨m, hm⟩ : ∃ m : Nat, Int.tmod ((i : Int) * 7 + 3) (cells.length : Int) = m ∧ m < cells.length := by
      rw [Int.tmod_eq_emod_of_nonneg (by omega)]
      exact ⟨(((i : Int) * 7 + 3) % (cells.length : Int)).toNat, by have := Int.emod_nonneg ((i : Int) * 7 + 3) (show (cells.length : Int) ≠ 0 by omega); omega, by have := Int.emod_lt_of_pos ((i : Int) * 7 + 3) (show 0 < (cells.length : Int) by omega); have := Int.emod_nonneg ((i : Int) * 7 + 3) (show (cells.length : Int) ≠ 0 by omega); omega⟩
    rw [hm.1, if_pos (by omega), if_pos (by omega), rdN cells m hm.2]
    have hcf := hf _ (List.getElem_mem hm.2)
    have hcr := freeB_rng hcf
    obtain ⟨c, hce⟩ : ∃ c, cells[m] = c := ⟨_, rfl⟩
    rw [hce] at hcf hcr ⊢
    obtain ⟨cl, a4, b4, e4, a5, a6⟩ := once_ev code hc a1 b1 a2 a3 4 (by omega) (by omega)
    rw [e4, Option.bind_some]
    simp only
    obtain ⟨z, hz, hz2⟩ := holder_l out (by omega) c hcr.1 out.length 0 k (by omega) (by omega)
    unfold spec_HolderOf.f
    rw [show ((0 : Nat) : Int) = 0 from rfl] at hz
    rw [hz, Option.bind_some]
    by_cases hz0 : z ≥ 0
    · rw [if_pos hz0]
      exact ih (i + 1) k a4 b4 out (v + 1 + u) (by omega) (by omega) (by omega) h1 h2 (fun r hr => by have := h3 r hr; omega) (by omega) (by omega) a5 a6
    rw [if_neg hz0, specAround_ev w h s hg c hcf k (by omega), Option.bind_some]
    have hno := hz2 (by omega) hid
    rw [List.drop_zero] at hno
    have more : ∀ (k' : Nat) (a b : Int) (tt : Int), d * 10 + 1000 ≤ k' → (tt = -1 ∨ (tt ∈ aroundL w h s c ∧ ∀ q ∈ out, q.f1 ≠ tt ∧ q.f2 ≠ tt)) → 0 ≤ a → a ≤ code.length →
        ∃ (xs : List TB) (a' b' : Int), spec_l20Right.l0 k' (out ++ [(⟨v + 1 + u, c, tt, cl⟩ : TB)]) cells (v + 1 + u) ((i + 1 : Nat) : Int) code a b w h s = some (xs, a', b') ∧ Team w h s xs := by
      intro k' a b tt hk' hto ha hb
      refine ih (i + 1) k' a b _ (v + 1 + u) (by omega) hk' (by simp; omega) ?_ ?_ ?_ (by omega) (by omega) ha hb
      · intro r hr
        rcases List.mem_append.1 hr with hr | hr
        · exact h1 r hr
        · rw [List.mem_singleton.1 hr]
          exact ⟨⟨by simp only; omega, by simp only; omega⟩, hcf, hto.imp id (fun g => g.1)⟩
      · rw [List.pairwise_append]
        refine ⟨h2, by simp, fun q hq r hr => ?_⟩
        rw [List.mem_singleton.1 hr]
        exact ⟨by have := h3 q hq; simp only; omega, (hno q hq).1, (hno q hq).2, hto.imp id (fun g => g.2 q hq)⟩
      · intro r hr
        rcases List.mem_append.1 hr with hr | hr
        · have := h3 r hr; omega
        · rw [List.mem_singleton.1 hr]; simp
    have j1 : ∀ (k' : Nat) (a b : Int) (bb : Bool), d * 10 + 1002 ≤ k' → (bb = true → 0 < (aroundL w h s c).length) → 0 ≤ a → a ≤ code.length →
        ∃ (xs : List TB) (a' b' : Int), spec_l20Right.j1 k' out cells (v + 1 + u) (i : Int) (aroundL w h s c) bb code a b w h s (v + 1 + u) c (-1) cl = some (xs, a', b') ∧ Team w h s xs := by
      intro k' a b bb hk' hbb ha hb
      obtain ⟨k', rfl⟩ := ksucc (show 0 < k' by omega)
      rw [spec_l20Right.j1, wnat (by omega)]
      cases bb
      · rw [if_neg (by simp), if_pos (by omega)]
        exact more k' a b (-1) (by omega) (.inl rfl) ha hb
      · have hpos := hbb rfl
        have hle := aroundL_len w h s c
        obtain ⟨t, a7, b7, e7, t1, a8, a9⟩ := below_ev code hc a b ha hb ((aroundL w h s c).length : Int) (by omega) (by omega)
        rw [if_pos rfl, e7, Option.bind_some]
        simp only
        have ht : t < (aroundL w h s c).length := by omega
        rw [if_pos (by omega), if_pos (by omega), rdN _ t ht]
        have hmem := List.getElem_mem ht
        obtain ⟨q, hq⟩ : ∃ q, (aroundL w h s c)[t] = q := ⟨_, rfl⟩
        rw [hq] at hmem ⊢
        have hqr := freeB_rng (aroundL_mem (gridB_iff hg).1.1 hmem).1
        obtain ⟨z', hz', hz3⟩ := holder_l out (by omega) q hqr.1 out.length 0 k' (by omega) (by omega)
        unfold spec_HolderOf.f
        rw [show ((0 : Nat) : Int) = 0 from rfl] at hz'
        rw [hz', Option.bind_some]
        by_cases hz4 : z' < 0
        · have hno2 := hz3 hz4 hid
          rw [List.drop_zero] at hno2
          rw [if_pos hz4, specHas_ev cells q (by omega) k' (by omega), Option.bind_some]
          split
          · rw [if_pos (by omega)]
            exact more k' a7 b7 (-1) (by omega) (.inl rfl) a8 a9
          · rw [if_pos (by omega)]
            exact more k' a7 b7 q (by omega) (.inr ⟨hmem, hno2⟩) a8 a9
        · rw [if_neg hz4, if_pos (by omega)]
          exact more k' a7 b7 (-1) (by omega) (.inl rfl) a8 a9
    by_cases hlen : ((aroundL w h s c).length : Int) > 0
    · obtain ⟨bb, a7, b7, e7, a8, a9⟩ := once_ev code hc a4 b4 a5 a6 4 (by omega) (by omega)
      rw [if_pos hlen, e7, Option.bind_some]
      simp only
      exact j1 k a7 b7 bb (by omega) (fun _ => by omega) a8 a9
    · rw [if_neg hlen]
      exact j1 k a4 b4 false (by omega) (fun e => by simp at e) a5 a6
theorem drawTeam_ev (code : List Int) (hc : code.length ≤ 1048576) (k : Nat) (hk : 5000 ≤ k) : ∃ (w h : Int) (s : ByteArray) (xs : List TB), spec_DrawTeam.f k code = some (w, h, s, xs) ∧ Team w h s xs := by
  unfold spec_DrawTeam.f
  obtain ⟨b0, e0⟩ := new_ev code hc k (by omega)
  rw [e0, Option.bind_some]
  simp only
  obtain ⟨w, h, s, a1, b1, e1, hg, a2, a3⟩ := right_ev code hc 0 b0 (by omega) (by omega) k (by omega)
  rw [e1, Option.bind_some]
  simp only
  unfold spec_l20Right.f
  obtain ⟨n, a4, b4, e4, n1, a5, a6⟩ := below_ev code hc a1 b1 a2 a3 6 (by omega) (by omega)
  rw [e4, Option.bind_some]
  simp only
  obtain ⟨cells, a7, b7, e7, c1, c2, a8, a9⟩ := some_ev code hc w h s hg (n : Int) (by omega) a4 b4 a5 a6 k (by omega)
  rw [e7, Option.bind_some]
  simp only
  obtain ⟨xs, a10, b10, e10, hT⟩ := team_l code hc w h s hg cells c1 c2 cells.length 0 k a7 b7 [] 0 (by omega) (by omega) (by simp) (by simp) (by simp) (by simp) (by omega) (by omega) a8 a9
  rw [show ((0 : Nat) : Int) = 0 from rfl] at e10
  rw [e10, Option.bind_some]
  exact ⟨w, h, s, xs, rfl, hT⟩

/-! what the law asks of a team -/
def sortC (l : List Int) : List Int := Lib.compact (l.mergeSort fun x y => decide (x ≤ y))
theorem sortC_mem (l : List Int) (x : Int) : x ∈ sortC l ↔ x ∈ l := (compact_sorted l).2 x
theorem sortC_len (l : List Int) : (sortC l).length ≤ l.length := by
  have h1 := Lib.compact_length_le (l.mergeSort fun x y => decide (x ≤ y))
  rw [List.length_mergeSort] at h1
  exact h1
theorem sortC_nodup (l : List Int) (h : l.Nodup) : (sortC l).length = l.length := by
  refine Nat.le_antisymm (sortC_len l) (nodup_le h (fun x hx => (sortC_mem l x).2 hx))
def heldL (r : TB) : List Int := if r.f2 < 0 then [r.f1] else [r.f1, r.f2]
def flatH (c : Bool) : List TB → List Int
  | [] => []
  | r :: t => (if (r.f3 == c) = true then heldL r else []) ++ flatH c t
def underL (c : Bool) : List TB → List Int
  | [] => []
  | r :: t => (if r.f2 ≥ 0 then (if (r.f3 == c) = true then [r.f0] else []) else []) ++ underL c t
def idleL : List TB → List Int
  | [] => []
  | r :: t => (if r.f2 < 0 then (if r.f3 = true then [] else [r.f1]) else []) ++ idleL t
def holderV (c : Int) : List TB → Int
  | [] => -1
  | r :: t => if (heldL r).contains c = true then r.f0 else holderV c t
theorem heldBy_eq (r : TB) : impl_heldBy.f r.f0 r.f1 r.f2 r.f3 = some (heldL r) := by
  unfold impl_heldBy.f heldL
  split <;> rfl
theorem heldL_len (r : TB) : (heldL r).length ≤ 2 := by unfold heldL; split <;> simp
theorem lawHas_l (xs : List Int) (x : Int) (hb : xs.length ≤ 1000) : ∀ (d i k : Nat), i + d = xs.length → d < k → laws_has.l0 k xs x (i : Int) = some ((xs.drop i).contains x) := by
  intro d
  induction d with
  | zero =>
    intro i k h hk
    obtain ⟨k, rfl⟩ := ksucc hk
    rw [laws_has.l0, if_neg (by omega), List.drop_eq_nil_of_le (by omega)]
    rfl
  | succ d ih =>
    intro i k h hk
    obtain ⟨k, rfl⟩ := ksucc hk
    have hi : i < xs.length := by omega
    rw [laws_has.l0, if_pos (by omega), if_pos (by omega), rdH xs i hi, wnat (by omega), ih (i + 1) k (by omega) (by omega), List.drop_eq_getElem_cons hi, List.contains_cons]
    by_cases e : xs[i] = x
    · rw [if_pos e, show (x == xs[i]) = true by simp [e]]; rfl
    · rw [if_neg e, show (x == xs[i]) = false by simpa using fun h => e h.symm, Bool.false_or]
theorem lawHas_ev (xs : List Int) (x : Int) (hb : xs.length ≤ 1000) (k : Nat) (hk : xs.length < k) : laws_has.f k xs x = some (xs.contains x) := by
  have := lawHas_l xs x hb xs.length 0 k (by omega) hk
  rwa [List.drop_zero] at this
section
variable {w h : Int} {s : ByteArray} {xs : List TB} (hT : Team w h s xs)
include hT
theorem held_nonneg : ∀ r ∈ xs, ∀ x ∈ heldL r, 0 ≤ x := by
  intro r hr x hx
  have := alone_to hT.grid (hT.alone r hr)
  unfold heldL at hx
  split at hx
  · rw [List.mem_singleton] at hx; omega
  · simp only [List.mem_cons, List.mem_nil_iff, or_false] at hx
    rcases hx with rfl | rfl
    · omega
    · omega
theorem heldBy_l (c : Bool) : ∀ (d i k : Nat) (out : List Int), i + d = xs.length → d + 5 < k → out.length ≤ 2 * i → (∀ x ∈ out, 0 ≤ x) →
    impl_HeldBy.l0 k c out xs (xs.length : Int) (i : Int) = some (sortC (out ++ flatH c (xs.drop i))) := by
  have hl := hT.len
  intro d
  induction d with
  | zero =>
    intro i k out hi hk ho hn
    obtain ⟨k, rfl⟩ := ksucc (show 0 < k by omega)
    have hf : (out.filter fun x => !decide (x < 0)) = out := List.filter_eq_self.2 (fun x hx => by have := hn x hx; simp; omega)
    rw [impl_HeldBy.l0, if_neg (by omega)]
    unfold impl_HeldBy_1.f impl_ordered.f
    simp only [Option.bind_some]
    rw [hf, if_pos (by omega), List.drop_eq_nil_of_le (by omega), flatH, List.append_nil]
    rfl
  | succ d ih =>
    intro i k out hi hk ho hn
    obtain ⟨k, rfl⟩ := ksucc (show 0 < k by omega)
    have hil : i < xs.length := by omega
    have h2 := heldL_len xs[i]
    have h3 := held_nonneg hT xs[i] (List.getElem_mem hil)
    rw [impl_HeldBy.l0, if_pos (by omega), if_pos (by omega), if_pos (by omega), rdTB xs i hil, List.drop_eq_getElem_cons hil, flatH, heldBy_eq, wnat (by omega)]
    by_cases hc : (xs[i].f3 == c) = true
    · rw [if_pos hc, if_pos hc, Option.bind_some, if_pos (by omega), ih (i + 1) k _ (by omega) (by omega) (by simp; omega) ?_, List.append_assoc]
      intro x hx
      rcases List.mem_append.1 hx with hx | hx
      · exact hn x hx
      · exact h3 x hx
    · rw [if_neg hc, if_neg hc, ih (i + 1) k out (by omega) (by omega) (by omega) hn]
      rfl
theorem heldBy_ev (c : Bool) (k : Nat) (hk : 100 ≤ k) : impl_HeldBy.f k xs c = some (sortC (flatH c xs)) := by
  have hl := hT.len
  have := heldBy_l hT c xs.length 0 k [] (by omega) (by omega) (by simp) (by simp)
  rwa [List.drop_zero, List.nil_append] at this
theorem under_l (c : Bool) : ∀ (d i k : Nat) (out : List Int), i + d = xs.length → d + 5 < k → out.length ≤ i →
    impl_UnderWay.l0 k c out xs (xs.length : Int) (i : Int) = some (sortC (out ++ underL c (xs.drop i))) := by
  have hl := hT.len
  intro d
  induction d with
  | zero =>
    intro i k out hi hk ho
    obtain ⟨k, rfl⟩ := ksucc (show 0 < k by omega)
    rw [impl_UnderWay.l0, if_neg (by omega)]
    unfold impl_ordered.f
    rw [if_pos (by omega), List.drop_eq_nil_of_le (by omega), underL, List.append_nil]
    rfl
  | succ d ih =>
    intro i k out hi hk ho
    obtain ⟨k, rfl⟩ := ksucc (show 0 < k by omega)
    have hil : i < xs.length := by omega
    rw [impl_UnderWay.l0, if_pos (by omega), if_pos (by omega), if_pos (by omega), rdTB xs i hil, List.drop_eq_getElem_cons hil, underL, wnat (by omega)]
    by_cases h2 : xs[i].f2 ≥ 0
    · rw [if_pos h2, if_pos h2]
      by_cases hc : (xs[i].f3 == c) = true
      · rw [if_pos hc, if_pos hc, if_pos (by omega), ih (i + 1) k _ (by omega) (by omega) (by simp; omega), List.append_assoc]
      · rw [if_neg hc, if_neg hc, ih (i + 1) k out (by omega) (by omega) (by omega)]; rfl
    · rw [if_neg h2, if_neg h2, ih (i + 1) k out (by omega) (by omega) (by omega)]; rfl
theorem under_ev (c : Bool) (k : Nat) (hk : 100 ≤ k) : impl_UnderWay.f k xs c = some (sortC (underL c xs)) := by
  have hl := hT.len
  have := under_l hT c xs.length 0 k [] (by omega) (by omega) (by simp)
  rwa [List.drop_zero, List.nil_append] at this
theorem idle_l : ∀ (d i k : Nat) (out : List Int), i + d = xs.length → d + 5 < k → out.length ≤ i →
    impl_IdleCells.l0 k out xs (xs.length : Int) (i : Int) = some (sortC (out ++ idleL (xs.drop i))) := by
  have hl := hT.len
  intro d
  induction d with
  | zero =>
    intro i k out hi hk ho
    obtain ⟨k, rfl⟩ := ksucc (show 0 < k by omega)
    rw [impl_IdleCells.l0, if_neg (by omega)]
    unfold impl_ordered.f
    rw [if_pos (by omega), List.drop_eq_nil_of_le (by omega), idleL, List.append_nil]
    rfl
  | succ d ih =>
    intro i k out hi hk ho
    obtain ⟨k, rfl⟩ := ksucc (show 0 < k by omega)
    have hil : i < xs.length := by omega
    rw [impl_IdleCells.l0, if_pos (by omega), if_pos (by omega), if_pos (by omega), rdTB xs i hil, List.drop_eq_getElem_cons hil, idleL, wnat (by omega)]
    by_cases h2 : xs[i].f2 < 0
    · rw [if_pos h2, if_pos h2]
      by_cases hc : xs[i].f3 = true
      · rw [if_pos hc, if_pos hc, ih (i + 1) k out (by omega) (by omega) (by omega)]; rfl
      · rw [if_neg hc, if_neg hc, if_pos (by omega), ih (i + 1) k _ (by omega) (by omega) (by simp; omega), List.append_assoc]
    · rw [if_neg h2, if_neg h2, ih (i + 1) k out (by omega) (by omega) (by omega)]; rfl
theorem idle_ev (k : Nat) (hk : 100 ≤ k) : impl_IdleCells.f k xs = some (sortC (idleL xs)) := by
  have hl := hT.len
  have := idle_l hT xs.length 0 k [] (by omega) (by omega) (by simp)
  rwa [List.drop_zero, List.nil_append] at this
theorem holderOf_l (c : Int) (hc : 0 ≤ c) : ∀ (d i k : Nat), i + d = xs.length → d + 5 < k → impl_HolderOf.l0 k c xs (xs.length : Int) (i : Int) = some (holderV c (xs.drop i)) := by
  have hl := hT.len
  intro d
  induction d with
  | zero =>
    intro i k hi hk
    obtain ⟨k, rfl⟩ := ksucc (show 0 < k by omega)
    rw [impl_HolderOf.l0, if_neg (by omega), List.drop_eq_nil_of_le (by omega)]
    rfl
  | succ d ih =>
    intro i k hi hk
    obtain ⟨k, rfl⟩ := ksucc (show 0 < k by omega)
    have hil : i < xs.length := by omega
    have h2 := heldL_len xs[i]
    rw [impl_HolderOf.l0, if_pos (by omega), if_pos (by omega), if_pos (by omega), if_pos hc, rdTB xs i hil, List.drop_eq_getElem_cons hil, holderV, heldBy_eq, wnat (by omega)]
    simp only [Option.bind_some]
    rw [implHas_ev _ c (by omega) k (by omega), Option.bind_some]
    split
    · rfl
    · exact ih (i + 1) k (by omega) (by omega)
theorem holderOf_ev (c : Int) (hc : 0 ≤ c) (k : Nat) (hk : 100 ≤ k) : impl_HolderOf.f k xs c = some (holderV c xs) := by
  have hl := hT.len
  have := holderOf_l hT c hc xs.length 0 k (by omega) (by omega)
  rwa [List.drop_zero] at this
end
/-- Two robots hold no cell together. -/
theorem pair_apart {w h : Int} {s : ByteArray} (hg : gridB w h s = true) {q r : TB} (hq : aloneT w h s q) (hr : aloneT w h s r) (hp : pairT q r) : ∀ x, x ∈ heldL q → x ∉ heldL r := by
  have h1 := alone_to hg hq
  have h2 := alone_to hg hr
  obtain ⟨_, p1, p2, p3⟩ := hp
  intro x hx hx2
  unfold heldL at hx hx2
  split at hx <;> split at hx2 <;> simp only [List.mem_cons, List.mem_nil_iff, or_false] at hx hx2 <;> omega
theorem flatH_mem (c : Bool) : ∀ (l : List TB) (x : Int), x ∈ flatH c l ↔ ∃ r ∈ l, r.f3 = c ∧ x ∈ heldL r
  | [], x => by simp [flatH]
  | r :: t, x => by
    rw [flatH, List.mem_append, flatH_mem c t x]
    by_cases hc : (r.f3 == c) = true
    · rw [if_pos hc]
      have hc' : r.f3 = c := by simpa using hc
      simp [hc']
    · rw [if_neg hc]
      have hc' : ¬ r.f3 = c := by simpa using hc
      simp [hc']
theorem idleL_mem : ∀ (l : List TB) (x : Int), x ∈ idleL l ↔ ∃ r ∈ l, r.f2 < 0 ∧ r.f3 = false ∧ r.f1 = x
  | [], x => by simp [idleL]
  | r :: t, x => by
    rw [idleL, List.mem_append, idleL_mem t x]
    by_cases h2 : r.f2 < 0
    · rw [if_pos h2]
      cases h3 : r.f3
      · rw [if_neg (by simp)]
        constructor
        · rintro (g | ⟨q, hq, e⟩)
          · exact ⟨r, by simp, h2, h3, (List.mem_singleton.1 g).symm⟩
          · exact ⟨q, by simp [hq], e⟩
        · rintro ⟨q, hq, e1, e2, e3⟩
          rcases List.mem_cons.1 hq with rfl | hq
          · exact .inl (by rw [← e3]; simp)
          · exact .inr ⟨q, hq, e1, e2, e3⟩
      · simp [h3]
    · rw [if_neg h2]
      simp [h2]
theorem underL_mem (c : Bool) : ∀ (l : List TB) (x : Int), x ∈ underL c l → ∃ r ∈ l, r.f0 = x
  | [], x, h => by simp [underL] at h
  | r :: t, x, h => by
    rw [underL, List.mem_append] at h
    rcases h with h | h
    · split at h
      · split at h
        · exact ⟨r, by simp, (List.mem_singleton.1 h).symm⟩
        · simp at h
      · simp at h
    · obtain ⟨q, hq, e⟩ := underL_mem c t x h
      exact ⟨q, by simp [hq], e⟩
theorem flatH_nodup {w h : Int} {s : ByteArray} (hg : gridB w h s = true) (c : Bool) : ∀ (l : List TB), (∀ r ∈ l, aloneT w h s r) → l.Pairwise pairT → (flatH c l).Nodup
  | [], _, _ => by simp [flatH]
  | r :: t, ha, hp => by
    rw [List.pairwise_cons] at hp
    have hr := alone_to hg (ha r (by simp))
    rw [flatH, List.nodup_append]
    refine ⟨?_, flatH_nodup hg c t (fun q hq => ha q (by simp [hq])) hp.2, ?_⟩
    · split
      · unfold heldL
        split
        · simp
        · simp; omega
      · simp
    · intro x hx y hy e
      subst e
      obtain ⟨q, hq, _, h2⟩ := (flatH_mem c t x).1 hy
      split at hx
      · exact pair_apart hg (ha r (by simp)) (ha q (by simp [hq])) (hp.1 q hq) x hx h2
      · simp at hx
theorem underL_nodup (c : Bool) : ∀ (l : List TB), l.Pairwise pairT → (underL c l).Nodup
  | [], _ => by simp [underL]
  | r :: t, hp => by
    rw [List.pairwise_cons] at hp
    rw [underL, List.nodup_append]
    refine ⟨?_, underL_nodup c t hp.2, ?_⟩
    · split
      · split <;> simp
      · simp
    · intro x hx y hy e
      subst e
      obtain ⟨q, hq, e2⟩ := underL_mem c t x hy
      have := (hp.1 q hq).1
      split at hx
      · split at hx
        · rw [List.mem_singleton] at hx; omega
        · simp at hx
      · simp at hx
theorem counts : ∀ l : List TB, (flatH true l).length + (flatH false l).length = l.length + ((underL true l).length + (underL false l).length)
  | [] => by simp [flatH, underL]
  | r :: t => by
    have := counts t
    simp only [flatH, underL, List.length_append, List.length_cons]
    cases h3 : r.f3
    · simp only [show (false == true) = false from rfl, show (false == false) = true from rfl, Bool.false_eq_true, if_false, if_true, List.length_nil]
      unfold heldL
      by_cases h2 : r.f2 < 0
      · rw [if_pos h2, if_neg (by omega), if_neg (by omega)]; simp; omega
      · rw [if_neg h2, if_pos (by omega), if_pos (by omega)]; simp; omega
    · simp only [show (true == false) = false from rfl, show (true == true) = true from rfl, Bool.false_eq_true, if_false, if_true, List.length_nil]
      unfold heldL
      by_cases h2 : r.f2 < 0
      · rw [if_pos h2, if_neg (by omega), if_neg (by omega)]; simp; omega
      · rw [if_neg h2, if_pos (by omega), if_pos (by omega)]; simp; omega
theorem holderV_none (c : Int) : ∀ l : List TB, (∀ r ∈ l, c ∉ heldL r) → holderV c l = -1
  | [], _ => rfl
  | r :: t, h => by
    rw [holderV, if_neg (by simpa using h r (by simp)), holderV_none c t (fun q hq => h q (by simp [hq]))]
theorem holderV_some (c : Int) : ∀ (l : List TB) (j : Nat) (hj : j < l.length), c ∈ heldL l[j] → (∀ i (hi : i < j), c ∉ heldL (l[i]'(by omega))) → holderV c l = l[j].f0
  | r :: t, 0, _, h, _ => by rw [holderV, if_pos (by simpa using h)]; rfl
  | r :: t, j + 1, hj, h, hn => by
    rw [holderV, if_neg (by have := hn 0 (by omega); simpa using this)]
    exact holderV_some c t j (by simpa using hj) (by simpa using h) (fun i hi => by have := hn (i + 1) (by omega); simpa using this)

open Go.Proofs.Ytfinjkjnoobbjaa.MyHof in
theorem teams_l {w h : Int} {s : ByteArray} {xs : List TB} (hT : Team w h s xs) : ∀ (d i k : Nat), i + d = s.size → d + 500 ≤ k →
    laws_FnTeams.l0 k xs (sortC (flatH true xs)) (sortC (flatH false xs)) (wrap64 (((sortC (underL true xs)).length : Int) + ((sortC (underL false xs)).length : Int))) (sortC (idleL xs)) (i : Int) w h s = some true := by
  have hl := hT.len
  have h4 := gridB_size hT.grid
  have hcn := counts xs
  have l1 := sortC_nodup _ (flatH_nodup hT.grid true xs hT.alone hT.pairs)
  have l2 := sortC_nodup _ (flatH_nodup hT.grid false xs hT.alone hT.pairs)
  have l3 := sortC_nodup _ (underL_nodup true xs hT.pairs)
  have l4 := sortC_nodup _ (underL_nodup false xs hT.pairs)
  have hA : ∀ x, (sortC (flatH true xs)).contains x = true ↔ ∃ r ∈ xs, r.f3 = true ∧ x ∈ heldL r := fun x => by rw [List.contains_iff_mem, sortC_mem, flatH_mem]
  have hB : ∀ x, (sortC (flatH false xs)).contains x = true ↔ ∃ r ∈ xs, r.f3 = false ∧ x ∈ heldL r := fun x => by rw [List.contains_iff_mem, sortC_mem, flatH_mem]
  have hI : ∀ x, (sortC (idleL xs)).contains x = true ↔ ∃ r ∈ xs, r.f2 < 0 ∧ r.f3 = false ∧ r.f1 = x := fun x => by rw [List.contains_iff_mem, sortC_mem, idleL_mem]
  have h10 : (flatH true xs).length + (flatH false xs).length ≤ 20 := by
    have : ∀ (c : Bool) (l : List TB), (underL c l).length ≤ l.length := by
      intro c l
      induction l with
      | nil => simp [underL]
      | cons r t ih =>
        rw [underL, List.length_append, List.length_cons]
        have : (if r.f2 ≥ 0 then (if (r.f3 == c) = true then [r.f0] else []) else []).length ≤ 1 := by
          split
          · split <;> simp
          · simp
        omega
    have a1 := this true xs
    have a2 := this false xs
    omega
  have hidl : (idleL xs).length ≤ 10 := by
    have : ∀ (l : List TB), (idleL l).length ≤ l.length := by
      intro l
      induction l with
      | nil => simp [idleL]
      | cons r t ih =>
        rw [idleL, List.length_append, List.length_cons]
        have : (if r.f2 < 0 then (if r.f3 = true then [] else [r.f1]) else []).length ≤ 1 := by
          split
          · split <;> simp
          · simp
        omega
    have := this xs
    omega
  obtain ⟨A, eA⟩ : ∃ A, sortC (flatH true xs) = A := ⟨_, rfl⟩
  obtain ⟨B, eB⟩ : ∃ B, sortC (flatH false xs) = B := ⟨_, rfl⟩
  obtain ⟨I, eI⟩ : ∃ I, sortC (idleL xs) = I := ⟨_, rfl⟩
  have hIl : I.length ≤ 10 := by rw [← eI]; exact Nat.le_trans (sortC_len _) hidl
  rw [eA] at hA l1 ⊢
  rw [eB] at hB l2 ⊢
  rw [eI] at hI ⊢
  intro d
  induction d with
  | zero =>
    intro i k hi hk
    obtain ⟨k, rfl⟩ := ksucc (show 0 < k by omega)
    rw [laws_FnTeams.l0, if_neg (by omega), l3, l4, w64 (x := ((underL true xs).length : Int) + _) (by omega) (by omega), w64 (by omega) (by omega), w64 (by omega) (by omega)]
    refine congrArg some ?_
    rw [beq_iff_eq]
    omega
  | succ d ih =>
    intro i k hi hk
    obtain ⟨k, rfl⟩ := ksucc (show 0 < k by omega)
    have next := ih (i + 1) k (by omega) (by omega)
    have vA := lawHas_ev A (i : Int) (by omega) k (by omega)
    have vB := lawHas_ev B (i : Int) (by omega) k (by omega)
    have vI := lawHas_ev I (i : Int) (by omega) k (by omega)
    have vH := holderOf_ev hT (i : Int) (by omega) k (by omega)
    rw [laws_FnTeams.l0, if_pos (by omega)]
    simp only [Option.bind_some, List.nil_append, List.length_nil, Nat.zero_add]
    rw [if_pos (by omega), vH]
    simp only [Option.bind_some]
    rw [if_pos (by omega)]
    unfold impl_RobotAt.f
    simp only [Option.bind_some]
    rw [vA, vB, vI, wnat (i := i) (by omega)]
    by_cases hex : ∃ j, ∃ hj : j < xs.length, (i : Int) ∈ heldL xs[j]
    · obtain ⟨j, hj, hm⟩ := hex
      have others : ∀ r ∈ xs, (i : Int) ∈ heldL r → r = xs[j] := by
        intro r hr hr2
        obtain ⟨q, hq, rfl⟩ := List.mem_iff_getElem.1 hr
        have hpw := List.pairwise_iff_getElem.1 hT.pairs
        rcases Nat.lt_trichotomy q j with hlt | rfl | hlt
        · exact absurd hm (pair_apart hT.grid (hT.alone _ (List.getElem_mem hq)) (hT.alone _ (List.getElem_mem hj)) (hpw q j hq hj hlt) _ hr2)
        · rfl
        · exact absurd hr2 (pair_apart hT.grid (hT.alone _ (List.getElem_mem hj)) (hT.alone _ (List.getElem_mem hq)) (hpw j q hj hq hlt) _ hm)
      have hv : holderV (i : Int) xs = xs[j].f0 := holderV_some (i : Int) xs j hj hm (fun q hq hc => by
        have hpw := List.pairwise_iff_getElem.1 hT.pairs
        exact pair_apart hT.grid (hT.alone _ (List.getElem_mem (by omega))) (hT.alone _ (List.getElem_mem hj)) (hpw q j (by omega) hj hq) _ hc hm)
      have hal := hT.alone xs[j] (List.getElem_mem hj)
      have hto := alone_to hT.grid hal
      have hx : idxOf (fun x : TB => x.f0 == holderV (i : Int) xs) xs = j := by
        refine idxOf_hit hj (by rw [hv]; simp) ?_
        intro x hxm
        obtain ⟨q, hq, rfl⟩ := List.mem_iff_getElem.1 hxm
        rw [List.length_take] at hq
        rw [List.getElem_take]
        have := ((List.pairwise_iff_getElem.1 hT.pairs) q j (by omega) hj (by omega)).1
        rw [hv, beq_eq_false_iff_ne]
        omega
      have c1 : A.contains (i : Int) = xs[j].f3 := by
        cases h3 : xs[j].f3
        · rw [Bool.eq_false_iff]
          intro hc
          obtain ⟨r, hr, e1, e2⟩ := (hA _).1 hc
          rw [others r hr e2, h3] at e1
          simp at e1
        · exact (hA _).2 ⟨xs[j], List.getElem_mem hj, h3, hm⟩
      have c2 : B.contains (i : Int) = !xs[j].f3 := by
        cases h3 : xs[j].f3
        · exact (hB _).2 ⟨xs[j], List.getElem_mem hj, h3, hm⟩
        · rw [Bool.not_true, Bool.eq_false_iff]
          intro hc
          obtain ⟨r, hr, e1, e2⟩ := (hB _).1 hc
          rw [others r hr e2, h3] at e1
          simp at e1
      have c3 : I.contains (i : Int) = true → xs[j].f3 = false ∧ xs[j].f2 = -1 := by
        intro hc
        obtain ⟨r, hr, e1, e2, e3⟩ := (hI _).1 hc
        have : r = xs[j] := others r hr (by unfold heldL; rw [if_pos e1, e3]; simp)
        rw [this] at e1 e2
        exact ⟨e2, by omega⟩
      have c4 : xs[j].f1 = (i : Int) ∨ xs[j].f2 = (i : Int) := by
        unfold heldL at hm
        split at hm
        · rw [List.mem_singleton] at hm; exact .inl hm.symm
        · simp only [List.mem_cons, List.mem_nil_iff, or_false] at hm
          rcases hm with hm | hm
          · exact .inl hm.symm
          · exact .inr hm.symm
      rw [hx, c1, c2, hv]
      have g0 : xs[j].f0 ≥ 0 := hal.1.1
      have g1 : ¬ xs[j].f0 < 0 := by omega
      have g2 : ¬ (j : Int) < 0 := by omega
      have g3 : 0 ≤ (j : Int) := by omega
      have g4 : (j : Int) < (xs.length : Int) := by omega
      simp only [Option.bind_some, rdTB xs j hj, decide_eq_true g0, if_pos g0, if_neg g1, if_neg g2, if_pos g3, if_pos g4, next]
      cases hIc : I.contains (i : Int)
      · cases h3 : xs[j].f3 <;> rcases c4 with c4 | c4 <;> simp [c4]
      · obtain ⟨c5, c6⟩ := c3 hIc
        rw [c5]
        have c7 : ¬ xs[j].f2 = (i : Int) := by omega
        have c8 : xs[j].f1 = (i : Int) := c4.resolve_right c7
        simp [c8, c6]
    · have hno : ∀ r ∈ xs, (i : Int) ∉ heldL r := by
        intro r hr hc
        obtain ⟨q, hq, rfl⟩ := List.mem_iff_getElem.1 hr
        exact hex ⟨q, hq, hc⟩
      have hv := holderV_none (i : Int) xs hno
      have hx : idxOf (fun x : TB => x.f0 == holderV (i : Int) xs) xs = -1 := by
        refine idxOf_miss ?_
        intro x hxm
        have := (hT.alone x hxm).1.1
        rw [hv, beq_eq_false_iff_ne]
        omega
      have c1 : A.contains (i : Int) = false := by
        rw [Bool.eq_false_iff]
        intro hc
        obtain ⟨r, hr, _, e2⟩ := (hA _).1 hc
        exact hno r hr e2
      have c2 : B.contains (i : Int) = false := by
        rw [Bool.eq_false_iff]
        intro hc
        obtain ⟨r, hr, _, e2⟩ := (hB _).1 hc
        exact hno r hr e2
      have c3 : I.contains (i : Int) = false := by
        rw [Bool.eq_false_iff]
        intro hc
        obtain ⟨r, hr, e1, _, e3⟩ := (hI _).1 hc
        exact hno r hr (by unfold heldL; rw [if_pos e1, e3]; simp)
      rw [hx, c1, c2, c3, hv]
      simp only [Option.bind_some, next]
      simp
theorem FnTeams : laws_FnTeams.Pure := by
  intro code _ hc2 hc3
  refine ⟨10000, ?_⟩
  obtain ⟨K, hK⟩ : ∃ K, K = 10000 := ⟨_, rfl⟩
  rw [← hK]
  unfold laws_FnTeams.f laws_big.f
  simp only [Option.bind_some]
  by_cases hb : (code.length : Int) > 1048576
  · rw [if_pos (by simpa using hb)]
  rw [if_neg (by simpa using hb)]
  obtain ⟨w, h, s, xs, e, hT⟩ := drawTeam_ev code (by omega) K (by omega)
  have hl := hT.len
  have h4 := gridB_size hT.grid
  rw [e]
  simp only [Option.bind_some, List.nil_append, List.length_nil, Nat.zero_add]
  rw [if_pos (by omega), robotsOk_ev hT K (by omega)]
  simp only [Option.bind_some, if_true]
  rw [if_pos (by omega), heldBy_ev hT true K (by omega)]
  simp only [Option.bind_some]
  rw [if_pos (by omega), heldBy_ev hT false K (by omega)]
  simp only [Option.bind_some]
  rw [if_pos (by omega), under_ev hT true K (by omega)]
  simp only [Option.bind_some]
  rw [if_pos (by omega), under_ev hT false K (by omega)]
  simp only [Option.bind_some]
  rw [if_pos (by omega), idle_ev hT K (by omega)]
  simp only [Option.bind_some]
  exact teams_l hT s.size 0 K (by omega) (by omega)

end Go.Proofs.Ytfinjkjnoobbjaa.Pure
