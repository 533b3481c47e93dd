/- The law FnExactYardNew over numbers and lists alone: it answers true for every input; no condition beside the bounds of the kinds. -/
import Derived.Test.YtfinjkjnoobbjaaMFnExactYardNewx
import Derived.Test.YtfinjkjnoobbjaaOpFnExactYardNew
namespace Go.Proofs.Ytfinjkjnoobbjaa.Pure
open Go.RowKit Go.Proofs.Ytfinjkjnoobbjaa.MFnExactYardNew Go.Proofs.YtfinjkjnoobbjaaW.PrintWords Go.Proofs.YtfinjkjnoobbjaaW.PrintLast Go.Proofs.Ytfinjkjnoobbjaa
set_option linter.unusedVariables false
set_option linter.unusedSimpArgs false

theorem w64 {x : Int} (h1 : -9223372036854775808 ≤ x) (h2 : x ≤ 9223372036854775807) : wrap64 x = x := by unfold wrap64; omega
theorem wnat {i : Nat} (h : i < 4611686018427387904) : wrap64 ((i : Int) + 1) = ((i + 1 : Nat) : Int) := by unfold wrap64; omega
theorem ksucc {k d : Nat} (h : d < k) : ∃ m, k = m + 1 := ⟨k - 1, by omega⟩

/-! frames -/
theorem l01In_eq (a b c : Int) : spec_l01In.f a b c = some (decide (b ≤ a ∧ a ≤ c)) := by
  unfold spec_l01In.f
  by_cases h : a ≥ b
  · rw [if_pos h]; simp [show b ≤ a from h]
  · rw [if_neg h]; simp [show ¬ b ≤ a from h]

/-! a grid's rule -/
def kindB (c : Int) : Bool := decide (c = 46 ∨ c = 35 ∨ (97 ≤ c ∧ c ≤ 102) ∨ (65 ≤ c ∧ c ≤ 70))
def cellsB (s : ByteArray) : Bool := (List.range' 0 s.size).all fun i => kindB (bt s (i : Nat))
def gridB (w h : Int) (s : ByteArray) : Bool := decide (((1 ≤ w ∧ w ≤ 8) ∧ (1 ≤ h ∧ h ≤ 8)) ∧ (s.size : Int) = w * h) && cellsB s
theorem mul_rng {w h : Int} (h1 : 1 ≤ w ∧ w ≤ 8) (h2 : 1 ≤ h ∧ h ≤ 8) : 1 ≤ w * h ∧ w * h ≤ 64 := by
  obtain ⟨a, b⟩ := h1
  obtain ⟨c, d⟩ := h2
  constructor
  · exact Int.le_trans (by omega : (1 : Int) ≤ 1 * 1) (Int.mul_le_mul a c (by omega) (by omega))
  · exact Int.mul_le_mul b d (by omega) (by omega)
theorem l02Kind_eq (c : Int) : spec_l02Kind.f c = some (kindB c) := by
  unfold spec_l02Kind.f kindB
  repeat' split
  all_goals first | exact congrArg some (decide_eq_decide.2 (by omega)) | (rw [decide_eq_true (by omega)]; done) | (rw [decide_eq_false (by omega)]; done)
theorem specGrid_l (w h : Int) (s : ByteArray) (hb : s.size ≤ 1048576) : ∀ (d i k : Nat), i + d = s.size → d < k →
    spec_GridOk.l0 k (i : Int) w h s = some ((List.range' i d).all fun j => kindB (bt s (j : Nat))) := by
  intro d
  induction d with
  | zero =>
    intro i k h1 hk
    obtain ⟨k, rfl⟩ := ksucc hk
    rw [spec_GridOk.l0, if_neg (by omega)]; rfl
  | succ d ih =>
    intro i k h1 hk
    obtain ⟨k, rfl⟩ := ksucc hk
    rw [spec_GridOk.l0, if_pos (by omega), if_pos (by omega), l02Kind_eq, wnat (by omega)]
    simp only [Option.bind_some]
    rw [List.range'_succ, List.all_cons]
    cases hc : kindB (bt s (i : Int))
    · simp
    · rw [if_pos rfl, ih (i + 1) k (by omega) (by omega)]; rfl
theorem implGrid_l (w h : Int) (s : ByteArray) (hb : s.size ≤ 1048576) : ∀ (d i k : Nat), i + d = s.size → d < k →
    impl_GridOk.l0 k (i : Int) w h s = some ((List.range' i d).all fun j => kindB (bt s (j : Nat))) := by
  intro d
  induction d with
  | zero =>
    intro i k h1 hk
    obtain ⟨k, rfl⟩ := ksucc hk
    rw [impl_GridOk.l0, if_neg (by omega)]; rfl
  | succ d ih =>
    intro i k h1 hk
    obtain ⟨k, rfl⟩ := ksucc hk
    rw [impl_GridOk.l0, if_pos (by omega), if_pos (by omega), wnat (by omega), ih (i + 1) k (by omega) (by omega)]
    rw [List.range'_succ, List.all_cons]
    generalize (List.range' (i + 1) d).all (fun j => kindB (bt s (j : Nat))) = X
    have hk2 : kindB (bt s (i : Int)) = decide (bt s i = 46 ∨ bt s i = 35 ∨ (97 ≤ bt s i ∧ bt s i ≤ 102) ∨ (65 ≤ bt s i ∧ bt s i ≤ 70)) := rfl
    rw [hk2]
    generalize bt s (i : Int) = c
    repeat' split
    all_goals (first | (rw [decide_eq_true (by omega), Bool.true_and]; done) | (rw [decide_eq_false (by omega), Bool.false_and]; done))
theorem specGrid_ev (w h : Int) (s : ByteArray) (hb : s.size ≤ 1048576) (k : Nat) (hk : s.size + 2 ≤ k) : spec_GridOk.f k w h s = some (gridB w h s) := by
  obtain ⟨k, rfl⟩ := ksucc (show 0 < k by omega)
  unfold spec_GridOk.f gridB
  simp only [l01In_eq, Option.bind_some, decide_eq_true_eq]
  by_cases h1 : 1 ≤ w ∧ w ≤ 8
  · rw [if_pos h1]
    by_cases h2 : 1 ≤ h ∧ h ≤ 8
    · have := mul_rng h1 h2
      rw [if_pos h2, w64 (by omega) (by omega), spec_GridOk.j0]
      by_cases h3 : (s.size : Int) = w * h
      · rw [if_neg (by simp [h3]), decide_eq_true ⟨⟨h1, h2⟩, h3⟩, Bool.true_and]
        exact specGrid_l w h s hb s.size 0 k (by omega) (by omega)
      · rw [if_pos (by simp [h3]), decide_eq_false (fun h => h3 h.2), Bool.false_and]
    · rw [if_neg h2, spec_GridOk.j0, if_pos rfl, decide_eq_false (fun h => h2 h.1.2), Bool.false_and]
  · rw [if_neg h1, spec_GridOk.j0, if_pos rfl, decide_eq_false (fun h => h1 h.1.1), Bool.false_and]
theorem implGrid_ev (w h : Int) (s : ByteArray) (hb : s.size ≤ 1048576) (k : Nat) (hk : s.size + 2 ≤ k) : impl_GridOk.f k w h s = some (gridB w h s) := by
  obtain ⟨k, rfl⟩ := ksucc (show 0 < k by omega)
  unfold impl_GridOk.f gridB
  have bad : ∀ p : Prop, [Decidable p] → ¬ p → impl_GridOk.j0 (k + 1) true w h s = some (decide p && cellsB s) := by
    intro p _ hp
    rw [impl_GridOk.j0, if_pos rfl, decide_eq_false hp, Bool.false_and]
  by_cases h1 : w < 1
  · rw [if_pos h1]; exact bad _ (fun h => by omega)
  rw [if_neg h1]
  by_cases h2 : w > 8
  · rw [if_pos h2]; exact bad _ (fun h => by omega)
  rw [if_neg h2]
  by_cases h3 : h < 1
  · rw [if_pos h3]; exact bad _ (fun h => by omega)
  rw [if_neg h3]
  by_cases h4 : h > 8
  · rw [if_pos h4]; exact bad _ (fun h => by omega)
  rw [if_neg h4]
  have g1 : 1 ≤ w ∧ w ≤ 8 := by omega
  have g2 : 1 ≤ h ∧ h ≤ 8 := by omega
  have := mul_rng g1 g2
  rw [w64 (by omega) (by omega), impl_GridOk.j0]
  by_cases h5 : (s.size : Int) = w * h
  · rw [if_neg (by simp [h5]), decide_eq_true ⟨⟨g1, g2⟩, h5⟩, Bool.true_and]
    exact implGrid_l w h s hb s.size 0 k (by omega) (by omega)
  · rw [if_pos (by simp [h5]), decide_eq_false (fun h => h5 h.2), Bool.false_and]

/-! a setup's rule -/
theorem specWin_eq (a b : Int) : spec_WindowNew.f a b = some (if (1 ≤ a ∧ a ≤ 8) ∧ (1 ≤ b ∧ b ≤ 100) then (a, b, List.replicate (a * 6).toNat 0, true) else (0, 0, [], false)) := by
  unfold spec_WindowNew.f
  simp only [l01In_eq, Option.bind_some, decide_eq_true_eq]
  by_cases h1 : 1 ≤ a ∧ a ≤ 8
  · rw [if_pos h1]
    by_cases h2 : 1 ≤ b ∧ b ≤ 100
    · rw [if_pos h2, w64 (by omega) (by omega), if_pos (by omega), if_pos (by omega), if_pos ⟨h1, h2⟩]
    · rw [if_neg h2, if_neg (fun h => h2 h.2)]
  · rw [if_neg h1, if_neg (fun h => h1 h.1)]
theorem implWin_eq (a b : Int) : impl_WindowNew.f a b = some (if (1 ≤ a ∧ a ≤ 8) ∧ (1 ≤ b ∧ b ≤ 100) then (a, b, List.replicate (a * 6).toNat 0, true) else (0, 0, [], false)) := by
  unfold impl_WindowNew.f
  by_cases h : (1 ≤ a ∧ a ≤ 8) ∧ (1 ≤ b ∧ b ≤ 100)
  · rw [if_pos h, if_neg (by omega), if_neg (by omega), if_neg (by omega), if_neg (by omega), w64 (by omega) (by omega), if_pos (by omega), if_pos (by omega)]
  · rw [if_neg h]
    repeat' split
    all_goals first | rfl | (exfalso; omega)
def setupB (w h : Int) (s : ByteArray) (p b c z : Int) : Bool := gridB w h s && decide ((1 ≤ p ∧ p ≤ 20) ∧ ((1 ≤ b ∧ b ≤ 8) ∧ (1 ≤ c ∧ c ≤ 100)) ∧ (0 ≤ z ∧ z ≤ 20))
theorem specSetup_ev (w h : Int) (s : ByteArray) (p b c z : Int) (hb : s.size ≤ 1048576) (k : Nat) (hk : s.size + 2 ≤ k) : spec_SetupOk.f k w h s p b c z = some (setupB w h s p b c z) := by
  unfold spec_SetupOk.f setupB
  rw [specWin_eq, specGrid_ev w h s hb k hk]
  simp only [Option.bind_some, l01In_eq, decide_eq_true_eq]
  cases gridB w h s
  · rfl
  · rw [if_pos rfl, Bool.true_and]
    by_cases h1 : 1 ≤ p ∧ p ≤ 20
    · rw [if_pos h1]
      by_cases h2 : (1 ≤ b ∧ b ≤ 8) ∧ (1 ≤ c ∧ c ≤ 100)
      · rw [if_pos h2, if_pos rfl]
        exact congrArg some (decide_eq_decide.2 ⟨fun g => ⟨h1, h2, g⟩, fun g => g.2.2⟩)
      · rw [if_neg h2, if_neg (by simp), decide_eq_false (fun g => h2 g.2.1)]
    · rw [if_neg h1, decide_eq_false (fun g => h1 g.1)]
theorem implSetup_ev (w h : Int) (s : ByteArray) (p b c z : Int) (hb : s.size ≤ 1048576) (k : Nat) (hk : s.size + 2 ≤ k) : impl_SetupOk.f k w h s p b c z = some (setupB w h s p b c z) := by
  unfold impl_SetupOk.f setupB
  rw [implWin_eq, implGrid_ev w h s hb k hk]
  simp only [Option.bind_some]
  cases gridB w h s
  · rfl
  · rw [if_pos rfl, Bool.true_and]
    by_cases h1 : p ≥ 1
    · rw [if_pos h1]
      by_cases h1' : p ≤ 20
      · rw [if_pos h1']
        by_cases h2 : (1 ≤ b ∧ b ≤ 8) ∧ (1 ≤ c ∧ c ≤ 100)
        · rw [if_pos h2, if_pos rfl]
          by_cases h3 : z ≥ 0
          · rw [if_pos h3]
            exact congrArg some (decide_eq_decide.2 ⟨fun g => ⟨⟨h1, h1'⟩, h2, h3, g⟩, fun g => g.2.2.2⟩)
          · rw [if_neg h3, decide_eq_false (fun g => h3 g.2.2.1)]
        · rw [if_neg h2, if_neg (by simp), decide_eq_false (fun g => h2 g.2.1)]
      · rw [if_neg h1', decide_eq_false (fun g => h1' g.1.2)]
    · rw [if_neg h1, decide_eq_false (fun g => h1 g.1.1)]

/-! lists of numbers, compared -/
theorem rdN (xs : List Int) (i : Nat) (h : i < xs.length) : rd xs (i : Int) = xs[i] := by simp [rd, List.getD, h]
theorem eqIntS_l (xs : List Int) (hb : xs.length ≤ 16777216) : ∀ (d i k : Nat), i + d = xs.length → d < k → laws_eqIntS.l0 k xs xs (i : Int) = some true := by
  intro d
  induction d with
  | zero =>
    intro i k h hk
    obtain ⟨k, rfl⟩ := ksucc hk
    rw [laws_eqIntS.l0, if_neg (by omega)]
  | succ d ih =>
    intro i k h hk
    obtain ⟨k, rfl⟩ := ksucc hk
    rw [laws_eqIntS.l0, if_pos (by omega), if_pos (by omega), if_pos (by omega), if_pos rfl, wnat (by omega)]
    exact ih (i + 1) k (by omega) (by omega)
theorem eqIntS_ev (xs : List Int) (hb : xs.length ≤ 16777216) (k : Nat) (hk : xs.length < k) : laws_eqIntS.f k xs xs = some true := by
  unfold laws_eqIntS.f
  rw [if_pos rfl]
  exact eqIntS_l xs hb xs.length 0 k (by omega) hk

/-! lists of numbers, marked -/
def nums1 (n m : Nat) : List Int := (List.range' n m).map fun (i : Nat) => (i : Int)
theorem nums1_length (n m : Nat) : (nums1 n m).length = m := by simp [nums1]
theorem nums1_get (n m i : Nat) (h : i < (nums1 n m).length) : (nums1 n m)[i] = ((n + i : Nat) : Int) := by simp [nums1]
theorem nums1_snoc (n m : Nat) : nums1 n (m + 1) = nums1 n m ++ [((n + m : Nat) : Int)] := by simp [nums1, List.range'_concat]
theorem markIntS_l (xs : List Int) (n : Nat) (hn : n ≤ 1125899906842624) (hb : xs.length ≤ 16777216) : ∀ (d i k : Nat), i + d = xs.length → d < k →
    laws_markIntS.l0 k (nums1 n i ++ xs.drop i) ((n + i : Nat) : Int) (i : Int) = some (((n + xs.length : Nat) : Int), nums1 n xs.length) := by
  intro d
  induction d with
  | zero =>
    intro i k h hk
    obtain ⟨k, rfl⟩ := ksucc hk
    have e : i = xs.length := by omega
    subst e
    have hl : (nums1 n xs.length ++ xs.drop xs.length).length = xs.length := by simp [nums1_length]
    rw [laws_markIntS.l0, if_neg (by rw [hl]; omega)]
    simp
  | succ d ih =>
    intro i k h hk
    obtain ⟨k, rfl⟩ := ksucc hk
    have hi : i < xs.length := by omega
    have hml := nums1_length n i
    have hl : (nums1 n i ++ xs.drop i).length = xs.length := by simp [hml]; omega
    rw [laws_markIntS.l0, if_pos (by rw [hl]; omega), if_pos (by omega)]
    have e0 : (i : Int).toNat = i := by omega
    rw [e0, wnat (i := n + i) (by omega), wnat (i := i) (by omega), List.drop_eq_getElem_cons hi, List.set_append_right _ _ (by omega), hml, Nat.sub_self, List.set_cons_zero]
    have e1 : nums1 n i ++ ((n + i : Nat) : Int) :: xs.drop (i + 1) = nums1 n (i + 1) ++ xs.drop (i + 1) := by rw [nums1_snoc, List.append_assoc]; rfl
    rw [e1]
    exact ih (i + 1) k (by omega) (by omega)
theorem markIntS_ev (xs : List Int) (n : Nat) (hn : n ≤ 1125899906842624) (hb : xs.length ≤ 16777216) (k : Nat) (hk : xs.length < k) : laws_markIntS.f k xs (n : Int) = some (((n + xs.length : Nat) : Int), nums1 n xs.length) := by
  have := markIntS_l xs n hn hb xs.length 0 k (by omega) hk
  simpa [laws_markIntS.f, nums1] using this

/-! ints, held -/
theorem heldIntS_l (n m : Nat) (hn : n ≤ 1125899906842624) (hb : m ≤ 16777216) : ∀ (d i k : Nat), i + d = m → d < k →
    laws_heldIntS.l0 k (nums1 n m) ((n + i : Nat) : Int) (i : Int) = some ((n + m : Nat) : Int) := by
  intro d
  have hml := nums1_length n m
  induction d with
  | zero =>
    intro i k h hk
    obtain ⟨k, rfl⟩ := ksucc hk
    have e : i = m := by omega
    subst e
    rw [laws_heldIntS.l0, if_neg (by omega)]
  | succ d ih =>
    intro i k h hk
    obtain ⟨k, rfl⟩ := ksucc hk
    rw [laws_heldIntS.l0, if_pos (by omega), if_pos (by omega), rdN _ i (by omega), nums1_get, if_pos rfl, wnat (i := n + i) (by omega), wnat (i := i) (by omega)]
    exact ih (i + 1) k (by omega) (by omega)
theorem heldIntS_ev (n m : Nat) (hn : n ≤ 1125899906842624) (hb : m ≤ 16777216) (k : Nat) (hk : m < k) : laws_heldIntS.f k (nums1 n m) (n : Int) = some ((n + m : Nat) : Int) := by
  have := heldIntS_l n m hn hb m 0 k (by omega) hk
  simpa [laws_heldIntS.f] using this

theorem heldYard0 (k : Nat) (w h : Int) (s : ByteArray) (a b c z d e : Int) (m : Nat) (f : Int) (g : Bool) (l o : Int) (hm : m ≤ 1048576) (hk : m + 1 < k) :
    laws_heldYard.f k w h s a b c z ([] : List S84) d e (nums1 1 m) f g l o ([] : List S143) ([] : List S141) ([] : List Int) 1 = some ((1 + m : Nat) : Int) := by
  obtain ⟨k, rfl⟩ := ksucc (show 0 < k by omega)
  have hd := heldIntS_ev 1 m (by omega) (by omega) (k + 1) (by omega)
  rw [show ((1 : Nat) : Int) = 1 from rfl] at hd
  unfold laws_heldYard.f laws_heldRobotS.f laws_heldWindow.f laws_heldPlan.f laws_heldWayS.f laws_heldJobS.f
  rw [laws_heldRobotS.l0, if_neg (by simp)]
  simp only [Option.bind_some]
  rw [if_neg (by omega), hd]
  simp only [Option.bind_some]
  rw [if_neg (by omega)]
  simp only [Option.bind_some]
  rw [if_neg (by omega), laws_heldWayS.l0, if_neg (by simp)]
  simp only [Option.bind_some]
  rw [if_neg (by omega)]
  simp only [Option.bind_some]
  rw [if_neg (by omega), laws_heldJobS.l0, if_neg (by simp)]
  simp only [Option.bind_some]
  rw [if_neg (by omega)]
  unfold laws_heldIntS.f
  rw [laws_heldIntS.l0, if_neg (by simp)]
  simp only [Option.bind_some]
  rw [if_neg (by omega)]
theorem markYard0 (k : Nat) (w h : Int) (s : ByteArray) (a b c z d e : Int) (ws : List Int) (f : Int) (g : Bool) (l o : Int) (hm : ws.length ≤ 1048576) (hk : ws.length < k) :
    laws_markYard.f k w h s a b c z ([] : List S84) d e ws f g l o ([] : List S143) ([] : List S141) ([] : List Int) 1 = some (((1 + ws.length : Nat) : Int), nums1 1 ws.length) := by
  have mk := markIntS_ev ws 1 (by omega) (by omega) k hk
  rw [show ((1 : Nat) : Int) = 1 from rfl] at mk
  unfold laws_markYard.f laws_markWindow.f
  rw [if_pos (by simp), mk]
  rfl
theorem eqYard0 (k : Nat) (w h : Int) (s : ByteArray) (a b c z d e : Int) (ws : List Int) (f : Int) (g : Bool) (l o : Int) (hm : ws.length ≤ 1048576) (hk : ws.length + 1 < k) :
    laws_eqYard.f k w h s a b c z ([] : List S84) d e ws f g l o ([] : List S143) ([] : List S141) ([] : List Int) w h s a b c z ([] : List S84) d e ws f g l o ([] : List S143) ([] : List S141) ([] : List Int) = some true := by
  obtain ⟨k, rfl⟩ := ksucc (show 0 < k by omega)
  unfold laws_eqYard.f laws_eqSetup.f laws_eqGrid.f laws_eqWindow.f laws_eqPlan.f laws_eqRobotS.f laws_eqWayS.f laws_eqJobS.f
  rw [eqIntS_ev ws (by omega) (k + 1) (by omega), eqIntS_ev ([] : List Int) (by simp) (k + 1) (by simp)]
  simp [laws_eqRobotS.l0, laws_eqWayS.l0, laws_eqJobS.l0]
theorem implYardNew_ev (k : Nat) (w h : Int) (s : ByteArray) (p b c z : Int) (hb : s.size ≤ 1048576) (hk : s.size + 2 ≤ k) :
    impl_YardNew.f k w h s p b c z = some (if setupB w h s p b c z = true then (w, h, s, p, b, c, z, [], b, c, List.replicate (b * 6).toNat 0, 0, false, 0, 0, [], [], [], true) else (0, 0, ⟨#[]⟩, 0, 0, 0, 0, [], 0, 0, [], 0, false, 0, 0, [], [], [], false)) := by
  unfold impl_YardNew.f
  rw [implSetup_ev w h s p b c z hb k hk, implWin_eq]
  simp only [Option.bind_some]
  cases hS : setupB w h s p b c z
  · simp
  · unfold setupB at hS
    rw [Bool.and_eq_true] at hS
    have h2 := of_decide_eq_true hS.2
    rw [if_pos rfl, if_pos h2.2.1]
    simp
theorem specYardNew_ev (k : Nat) (w h : Int) (s : ByteArray) (p b c z : Int) (hb : s.size ≤ 1048576) (hk : s.size + 2 ≤ k) :
    spec_YardNew.f k w h s p b c z = some (if setupB w h s p b c z = true then (w, h, s, p, b, c, z, [], b, c, List.replicate (b * 6).toNat 0, 0, false, 0, 0, [], [], [], true) else (0, 0, ⟨#[]⟩, 0, 0, 0, 0, [], 0, 0, [], 0, false, 0, 0, [], [], [], false)) := by
  unfold spec_YardNew.f
  rw [specSetup_ev w h s p b c z hb k hk, specWin_eq]
  simp only [Option.bind_some]
  cases hS : setupB w h s p b c z
  · simp
  · unfold setupB at hS
    rw [Bool.and_eq_true] at hS
    have h2 := of_decide_eq_true hS.2
    rw [if_pos rfl, if_pos h2.2.1]
    simp
theorem FnExactYardNew : OpFnExactYardNew.Pure := by
  rintro ⟨⟨w, h, s⟩, p, b, c, z⟩ ok
  have hs : s.size ≤ 140737488351232 := ok.1.2.2
  obtain ⟨K, hK⟩ : ∃ K, s.size + 100 < K := ⟨s.size + 101, by omega⟩
  refine ⟨K + 2, ?_⟩
  unfold laws_FnExactYardNew.f laws_szSetup.f laws_szGrid.f
  simp only
  rw [w64 (by omega) (by omega)]
  by_cases h1 : 1048576 - (s.size : Int) < 0
  · rw [if_pos h1]; simp
  rw [if_neg h1]
  simp only [Option.bind_some]
  rw [if_neg h1]
  simp only [Option.bind_some]
  rw [if_neg h1]
  simp only [laws_toSetup.f, laws_toGrid.f, Option.bind_some]
  rw [specYardNew_ev (K + 2) w h s p b c z (by omega) (by omega), implYardNew_ev (K + 2) w h s p b c z (by omega) (by omega)]
  simp only [Option.bind_some]
  have iK := implYardNew_ev (K + 1) w h s p b c z (by omega) (by omega)
  cases hS : setupB w h s p b c z
  · rw [hS] at iK
    simp only [Bool.false_eq_true, if_false] at iK ⊢
    rw [eqYard0 (K + 2) _ _ _ _ _ _ _ _ _ [] _ _ _ _ (by simp) (by simp; try omega)]
    simp only [Option.bind_some, if_true, bne_self_eq_false]
    rw [laws_FnExactYardNew.j0, if_neg (by simp), markYard0 (K + 1) _ _ _ _ _ _ _ _ _ [] _ _ _ _ (by simp) (by simp; try omega)]
    simp only [Option.bind_some]
    rw [List.length_nil, heldYard0 (K + 1) _ _ _ _ _ _ _ _ _ 0 _ _ _ _ (by omega) (by omega)]
    simp only [Option.bind_some]
    rw [if_neg (by omega), if_pos trivial]
    simp only [laws_toSetup.f, laws_toGrid.f, Option.bind_some]
    rw [iK]
    simp only [Option.bind_some]
    rw [eqYard0 (K + 1) _ _ _ _ _ _ _ _ _ [] _ _ _ _ (by simp) (by simp; try omega)]
    simp only [Option.bind_some, if_true, bne_self_eq_false]
    rw [laws_FnExactYardNew.j1, if_neg (by simp), heldYard0 K _ _ _ _ _ _ _ _ _ 0 _ _ _ _ (by omega) (by omega)]
    simp only [Option.bind_some]
    rw [if_neg (by omega), if_pos trivial]
  · have hb8 : 1 ≤ b ∧ b ≤ 8 := by
      unfold setupB at hS
      rw [Bool.and_eq_true] at hS
      exact (of_decide_eq_true hS.2).2.1.1
    rw [hS] at iK
    simp only [if_true] at iK ⊢
    obtain ⟨ws, hw⟩ : ∃ ws : List Int, List.replicate (b * 6).toNat (0 : Int) = ws := ⟨_, rfl⟩
    have hl : ws.length ≤ 48 := by rw [← hw, List.length_replicate]; omega
    rw [hw] at iK ⊢
    clear hw
    rw [eqYard0 (K + 2) _ _ _ _ _ _ _ _ _ ws _ _ _ _ (by omega) (by omega)]
    simp only [Option.bind_some, if_true, bne_self_eq_false]
    rw [laws_FnExactYardNew.j0, if_neg (by simp), markYard0 (K + 1) _ _ _ _ _ _ _ _ _ ws _ _ _ _ (by omega) (by omega)]
    simp only [Option.bind_some]
    rw [heldYard0 (K + 1) _ _ _ _ _ _ _ _ _ ws.length _ _ _ _ (by omega) (by omega)]
    simp only [Option.bind_some]
    rw [if_neg (by omega), if_pos trivial]
    simp only [laws_toSetup.f, laws_toGrid.f, Option.bind_some]
    rw [iK]
    simp only [Option.bind_some]
    rw [eqYard0 (K + 1) _ _ _ _ _ _ _ _ _ ws _ _ _ _ (by omega) (by omega)]
    simp only [Option.bind_some, if_true, bne_self_eq_false]
    rw [laws_FnExactYardNew.j1, if_neg (by simp), heldYard0 K _ _ _ _ _ _ _ _ _ ws.length _ _ _ _ (by omega) (by omega)]
    simp only [Option.bind_some]
    rw [if_neg (by omega), if_pos trivial]

end Go.Proofs.Ytfinjkjnoobbjaa.Pure
