/- The law FnExactSafeYard over numbers and lists alone: it answers true for every input; no condition beside the bounds of the kinds. -/
import Derived.Test.YtfinjkjnoobbjaaMFnExactSafeYardx
import Derived.Test.YtfinjkjnoobbjaaOpFnExactSafeYard
namespace Go.Proofs.Ytfinjkjnoobbjaa.Pure
open Go.RowKit Go.Proofs.Ytfinjkjnoobbjaa.MFnExactSafeYard Go.Proofs.YtfinjkjnoobbjaaW.PrintWords Go.Proofs.YtfinjkjnoobbjaaW.PrintLast Go.Proofs.Ytfinjkjnoobbjaa
set_option linter.unusedVariables false
set_option linter.unusedSimpArgs false

theorem w64 {x : Int} (h1 : -9223372036854775808 ≤ x) (h2 : x ≤ 9223372036854775807) : wrap64 x = x := by unfold wrap64; omega
theorem wnat {i : Nat} (h : i < 4611686018427387904) : wrap64 ((i : Int) + 1) = ((i + 1 : Nat) : Int) := by unfold wrap64; omega
theorem ksucc {k d : Nat} (h : d < k) : ∃ m, k = m + 1 := ⟨k - 1, by omega⟩

/-! frames -/
theorem l01In_eq (a b c : Int) : spec_l01In.f a b c = some (decide (b ≤ a ∧ a ≤ c)) := by
  unfold spec_l01In.f
  by_cases h : a ≥ b
  · rw [if_pos h]; simp [show b ≤ a from h]
  · rw [if_neg h]; simp [show ¬ b ≤ a from h]

/-! a grid's rule -/
def kindB (c : Int) : Bool := decide (c = 46 ∨ c = 35 ∨ (97 ≤ c ∧ c ≤ 102) ∨ (65 ≤ c ∧ c ≤ 70))
def cellsB (s : ByteArray) : Bool := (List.range' 0 s.size).all fun i => kindB (bt s (i : Nat))
def gridB (w h : Int) (s : ByteArray) : Bool := decide (((1 ≤ w ∧ w ≤ 8) ∧ (1 ≤ h ∧ h ≤ 8)) ∧ (s.size : Int) = w * h) && cellsB s
theorem mul_rng {w h : Int} (h1 : 1 ≤ w ∧ w ≤ 8) (h2 : 1 ≤ h ∧ h ≤ 8) : 1 ≤ w * h ∧ w * h ≤ 64 := by
  obtain ⟨a, b⟩ := h1
  obtain ⟨c, d⟩ := h2
  constructor
  · exact Int.le_trans (by omega : (1 : Int) ≤ 1 * 1) (Int.mul_le_mul a c (by omega) (by omega))
  · exact Int.mul_le_mul b d (by omega) (by omega)
theorem l02Kind_eq (c : Int) : spec_l02Kind.f c = some (kindB c) := by
  unfold spec_l02Kind.f kindB
  repeat' split
  all_goals first | exact congrArg some (decide_eq_decide.2 (by omega)) | (rw [decide_eq_true (by omega)]; done) | (rw [decide_eq_false (by omega)]; done)
theorem specGrid_l (w h : Int) (s : ByteArray) (hb : s.size ≤ 1048576) : ∀ (d i k : Nat), i + d = s.size → d < k →
    spec_GridOk.l0 k (i : Int) w h s = some ((List.range' i d).all fun j => kindB (bt s (j : Nat))) := by
  intro d
  induction d with
  | zero =>
    intro i k h1 hk
    obtain ⟨k, rfl⟩ := ksucc hk
    rw [spec_GridOk.l0, if_neg (by omega)]; rfl
  | succ d ih =>
    intro i k h1 hk
    obtain ⟨k, rfl⟩ := ksucc hk
    rw [spec_GridOk.l0, if_pos (by omega), if_pos (by omega), l02Kind_eq, wnat (by omega)]
    simp only [Option.bind_some]
    rw [List.range'_succ, List.all_cons]
    cases hc : kindB (bt s (i : Int))
    · simp
    · rw [if_pos rfl, ih (i + 1) k (by omega) (by omega)]; rfl
theorem implGrid_l (w h : Int) (s : ByteArray) (hb : s.size ≤ 1048576) : ∀ (d i k : Nat), i + d = s.size → d < k →
    impl_GridOk.l0 k (i : Int) w h s = some ((List.range' i d).all fun j => kindB (bt s (j : Nat))) := by
  intro d
  induction d with
  | zero =>
    intro i k h1 hk
    obtain ⟨k, rfl⟩ := ksucc hk
    rw [impl_GridOk.l0, if_neg (by omega)]; rfl
  | succ d ih =>
    intro i k h1 hk
    obtain ⟨k, rfl⟩ := ksucc hk
    rw [impl_GridOk.l0, if_pos (by omega), if_pos (by omega), wnat (by omega), ih (i + 1) k (by omega) (by omega)]
    rw [List.range'_succ, List.all_cons]
    generalize (List.range' (i + 1) d).all (fun j => kindB (bt s (j : Nat))) = X
    have hk2 : kindB (bt s (i : Int)) = decide (bt s i = 46 ∨ bt s i = 35 ∨ (97 ≤ bt s i ∧ bt s i ≤ 102) ∨ (65 ≤ bt s i ∧ bt s i ≤ 70)) := rfl
    rw [hk2]
    generalize bt s (i : Int) = c
    repeat' split
    all_goals (first | (rw [decide_eq_true (by omega), Bool.true_and]; done) | (rw [decide_eq_false (by omega), Bool.false_and]; done))
theorem specGrid_ev (w h : Int) (s : ByteArray) (hb : s.size ≤ 1048576) (k : Nat) (hk : s.size + 2 ≤ k) : spec_GridOk.f k w h s = some (gridB w h s) := by
  obtain ⟨k, rfl⟩ := ksucc (show 0 < k by omega)
  unfold spec_GridOk.f gridB
  simp only [l01In_eq, Option.bind_some, decide_eq_true_eq]
  by_cases h1 : 1 ≤ w ∧ w ≤ 8
  · rw [if_pos h1]
    by_cases h2 : 1 ≤ h ∧ h ≤ 8
    · have := mul_rng h1 h2
      rw [if_pos h2, w64 (by omega) (by omega), spec_GridOk.j0]
      by_cases h3 : (s.size : Int) = w * h
      · rw [if_neg (by simp [h3]), decide_eq_true ⟨⟨h1, h2⟩, h3⟩, Bool.true_and]
        exact specGrid_l w h s hb s.size 0 k (by omega) (by omega)
      · rw [if_pos (by simp [h3]), decide_eq_false (fun h => h3 h.2), Bool.false_and]
    · rw [if_neg h2, spec_GridOk.j0, if_pos rfl, decide_eq_false (fun h => h2 h.1.2), Bool.false_and]
  · rw [if_neg h1, spec_GridOk.j0, if_pos rfl, decide_eq_false (fun h => h1 h.1.1), Bool.false_and]
theorem implGrid_ev (w h : Int) (s : ByteArray) (hb : s.size ≤ 1048576) (k : Nat) (hk : s.size + 2 ≤ k) : impl_GridOk.f k w h s = some (gridB w h s) := by
  obtain ⟨k, rfl⟩ := ksucc (show 0 < k by omega)
  unfold impl_GridOk.f gridB
  have bad : ∀ p : Prop, [Decidable p] → ¬ p → impl_GridOk.j0 (k + 1) true w h s = some (decide p && cellsB s) := by
    intro p _ hp
    rw [impl_GridOk.j0, if_pos rfl, decide_eq_false hp, Bool.false_and]
  by_cases h1 : w < 1
  · rw [if_pos h1]; exact bad _ (fun h => by omega)
  rw [if_neg h1]
  by_cases h2 : w > 8
  · rw [if_pos h2]; exact bad _ (fun h => by omega)
  rw [if_neg h2]
  by_cases h3 : h < 1
  · rw [if_pos h3]; exact bad _ (fun h => by omega)
  rw [if_neg h3]
  by_cases h4 : h > 8
  · rw [if_pos h4]; exact bad _ (fun h => by omega)
  rw [if_neg h4]
  have g1 : 1 ≤ w ∧ w ≤ 8 := by omega
  have g2 : 1 ≤ h ∧ h ≤ 8 := by omega
  have := mul_rng g1 g2
  rw [w64 (by omega) (by omega), impl_GridOk.j0]
  by_cases h5 : (s.size : Int) = w * h
  · rw [if_neg (by simp [h5]), decide_eq_true ⟨⟨g1, g2⟩, h5⟩, Bool.true_and]
    exact implGrid_l w h s hb s.size 0 k (by omega) (by omega)
  · rw [if_pos (by simp [h5]), decide_eq_false (fun h => h5 h.2), Bool.false_and]

/-! free cells -/
def freeB (s : ByteArray) (c : Int) : Bool := decide (0 ≤ c ∧ c < s.size) && (bt s c != 35)
theorem specFree_ev (w h : Int) (s : ByteArray) (c : Int) (hb : s.size ≤ 1048576) (k : Nat) (hk : s.size + 2 ≤ k) : spec_FreeAt.f k w h s c = some (gridB w h s && freeB s c) := by
  unfold spec_FreeAt.f freeB
  rw [specGrid_ev w h s hb k hk]
  simp only [Option.bind_some]
  cases gridB w h s
  · simp
  · by_cases h1 : 0 ≤ c
    · by_cases h2 : c < (s.size : Int)
      · simp [h1, h2]
      · simp [h1, h2]
    · simp [h1]
theorem implFree_ev (w h : Int) (s : ByteArray) (c : Int) : impl_isFree.f w h s c = some (freeB s c) := by
  unfold impl_isFree.f freeB
  by_cases h1 : 0 ≤ c
  · by_cases h2 : c < (s.size : Int)
    · simp [h1, h2]
    · simp [h1, h2]
  · simp [h1]

theorem fill_step {α β : Type} (f : α → β) (z : β) (xs : List α) (i d : Nat) (h : i + (d + 1) = xs.length) (hi : i < xs.length) :
    ((xs.take i).map f ++ List.replicate (d + 1) z).set i (f xs[i]) = (xs.take (i + 1)).map f ++ List.replicate d z := by
  have hl : ((xs.take i).map f).length = i := by simp; omega
  rw [List.replicate_succ, List.set_append_right _ _ (by omega), hl, Nat.sub_self, List.set_cons_zero, List.take_succ_eq_append_getElem hi, List.map_append]
  simp

/-! Robots, made of what came in -/
def cvRobot (y : S153) : S84 := ⟨y.f0, y.f1, y.f2, y.f3⟩
theorem rdLRobot (xs : List S153) (i : Nat) (h : i < xs.length) : rd_T153 xs (i : Int) = xs[i] := by simp [rd_T153, List.getD, h]
theorem toRobotS_l (xs : List S153) (hb : xs.length ≤ 1048576) : ∀ (d i k : Nat), i + d = xs.length → d < k →
    laws_toRobotS.l0 k xs ((xs.take i).map cvRobot ++ List.replicate d z84) (i : Int) = some (xs.map cvRobot) := by
  intro d
  induction d with
  | zero =>
    intro i k h hk
    obtain ⟨k, rfl⟩ := ksucc hk
    simp only [laws_toRobotS.l0]
    rw [if_neg (by omega), List.take_of_length_le (by omega)]
    simp
  | succ d ih =>
    intro i k h hk
    obtain ⟨k, rfl⟩ := ksucc hk
    have hi : i < xs.length := by omega
    simp only [laws_toRobotS.l0, laws_toRobot.f, Option.bind_some]
    rw [if_pos (by omega), if_pos (by omega), if_pos (by simp; omega), rdLRobot xs i hi, wnat (by omega)]
    have e : (i : Int).toNat = i := by simp
    rw [e]
    exact (congrArg (fun z => laws_toRobotS.l0 k xs z ((i + 1 : Nat) : Int)) (fill_step cvRobot z84 xs i d h hi)).trans (ih (i + 1) k (by omega) (by omega))
theorem toRobotS_ev (xs : List S153) (hb : xs.length ≤ 1048576) (k : Nat) (hk : xs.length < k) : laws_toRobotS.f k xs = some (xs.map cvRobot) := by
  unfold laws_toRobotS.f
  rw [if_pos (by omega), if_pos (by omega)]
  have := toRobotS_l xs hb xs.length 0 k (by omega) hk
  simpa using this

/-! lists of numbers, made of what came in -/
theorem rdT (xs : List Int) (i : Nat) (h : i < xs.length) : rd xs (i : Int) = xs[i] := by simp [rd, List.getD, h]
theorem toIntS_l (xs : List Int) (hb : xs.length ≤ 1048576) : ∀ (d i k : Nat), i + d = xs.length → d < k →
    laws_toIntS.l0 k xs ((xs.take i).map id ++ List.replicate d 0) (i : Int) = some xs := by
  intro d
  induction d with
  | zero =>
    intro i k h hk
    obtain ⟨k, rfl⟩ := ksucc hk
    simp only [laws_toIntS.l0]
    rw [if_neg (by omega), List.take_of_length_le (by omega)]
    simp
  | succ d ih =>
    intro i k h hk
    obtain ⟨k, rfl⟩ := ksucc hk
    have hi : i < xs.length := by omega
    simp only [laws_toIntS.l0]
    rw [if_pos (by omega), if_pos (by omega), if_pos (by simp; omega), rdT xs i hi, wnat (by omega)]
    have e : (i : Int).toNat = i := by simp
    rw [e]
    exact (congrArg (fun z => laws_toIntS.l0 k xs z ((i + 1 : Nat) : Int)) (fill_step id 0 xs i d h hi)).trans (ih (i + 1) k (by omega) (by omega))
theorem toIntS_ev (xs : List Int) (hb : xs.length ≤ 1048576) (k : Nat) (hk : xs.length < k) : laws_toIntS.f k xs = some xs := by
  unfold laws_toIntS.f
  rw [if_pos (by omega), if_pos (by omega)]
  have := toIntS_l xs hb xs.length 0 k (by omega) hk
  simpa using this

/-! ways, made of what came in -/
def cvWay (y : S185) : S143 := ⟨y.f0⟩
theorem rdLWay (xs : List S185) (i : Nat) (h : i < xs.length) : rd_T185 xs (i : Int) = xs[i] := by simp [rd_T185, List.getD, h]
theorem toWayS_l (xs : List S185) (hb : xs.length ≤ 1048576) (hw : ∀ x ∈ xs, x.f0.length ≤ 1048576) : ∀ (d i k : Nat), i + d = xs.length → d + 1048577 < k →
    laws_toWayS.l0 k xs ((xs.take i).map cvWay ++ List.replicate d z143) (i : Int) = some (xs.map cvWay) := by
  intro d
  induction d with
  | zero =>
    intro i k h hk
    obtain ⟨k, rfl⟩ := ksucc (show 0 < k by omega)
    simp only [laws_toWayS.l0]
    rw [if_neg (by omega), List.take_of_length_le (by omega)]
    simp
  | succ d ih =>
    intro i k h hk
    obtain ⟨k, rfl⟩ := ksucc (show 0 < k by omega)
    have hi : i < xs.length := by omega
    have hwi := hw _ (List.getElem_mem hi)
    simp only [laws_toWayS.l0]
    rw [if_pos (by omega), if_pos (by omega), rdLWay xs i hi]
    unfold laws_toWay.f
    rw [toIntS_ev _ hwi k (by omega)]
    simp only [Option.bind_some]
    rw [if_pos (by simp; omega), wnat (by omega)]
    have e : (i : Int).toNat = i := by simp
    rw [e]
    exact (congrArg (fun z => laws_toWayS.l0 k xs z ((i + 1 : Nat) : Int)) (fill_step cvWay z143 xs i d h hi)).trans (ih (i + 1) k (by omega) (by omega))
theorem toWayS_ev (xs : List S185) (hb : xs.length ≤ 1048576) (hw : ∀ x ∈ xs, x.f0.length ≤ 1048576) (k : Nat) (hk : xs.length + 1048577 < k) : laws_toWayS.f k xs = some (xs.map cvWay) := by
  unfold laws_toWayS.f
  rw [if_pos (by omega), if_pos (by omega)]
  have := toWayS_l xs hb hw xs.length 0 k (by omega) hk
  simpa using this

/-! Jobs, made of what came in -/
def cvJob (y : S156) : S141 := ⟨y.f0, y.f1, y.f2⟩
theorem rdLJob (xs : List S156) (i : Nat) (h : i < xs.length) : rd_T156 xs (i : Int) = xs[i] := by simp [rd_T156, List.getD, h]
theorem toJobS_l (xs : List S156) (hb : xs.length ≤ 1048576) : ∀ (d i k : Nat), i + d = xs.length → d < k →
    laws_toJobS.l0 k xs ((xs.take i).map cvJob ++ List.replicate d z141) (i : Int) = some (xs.map cvJob) := by
  intro d
  induction d with
  | zero =>
    intro i k h hk
    obtain ⟨k, rfl⟩ := ksucc hk
    simp only [laws_toJobS.l0]
    rw [if_neg (by omega), List.take_of_length_le (by omega)]
    simp
  | succ d ih =>
    intro i k h hk
    obtain ⟨k, rfl⟩ := ksucc hk
    have hi : i < xs.length := by omega
    simp only [laws_toJobS.l0, laws_toJob.f, Option.bind_some]
    rw [if_pos (by omega), if_pos (by omega), if_pos (by simp; omega), rdLJob xs i hi, wnat (by omega)]
    have e : (i : Int).toNat = i := by simp
    rw [e]
    exact (congrArg (fun z => laws_toJobS.l0 k xs z ((i + 1 : Nat) : Int)) (fill_step cvJob z141 xs i d h hi)).trans (ih (i + 1) k (by omega) (by omega))
theorem toJobS_ev (xs : List S156) (hb : xs.length ≤ 1048576) (k : Nat) (hk : xs.length < k) : laws_toJobS.f k xs = some (xs.map cvJob) := by
  unfold laws_toJobS.f
  rw [if_pos (by omega), if_pos (by omega)]
  have := toJobS_l xs hb xs.length 0 k (by omega) hk
  simpa using this

/-! a yard, made of what came in -/
theorem toYard_ev (k : Nat) (w h : Int) (s : ByteArray) (a b c z : Int) (rs : List S153) (d e : Int) (ws : List Int) (f : Int) (g : Bool) (l m : Int) (ways : List S185) (js : List S156) (gs : List Int)
    (hrs : rs.length ≤ 1048576) (hws : ws.length ≤ 1048576) (hwz : ways.length ≤ 1048576) (hww : ∀ x ∈ ways, x.f0.length ≤ 1048576) (hjs : js.length ≤ 1048576) (hgs : gs.length ≤ 1048576) (hk : 2097153 < k) :
    laws_toYard.f k w h s a b c z rs d e ws f g l m ways js gs = some (w, h, s, a, b, c, z, rs.map cvRobot, d, e, ws, f, g, l, m, ways.map cvWay, js.map cvJob, gs) := by
  unfold laws_toYard.f laws_toSetup.f laws_toGrid.f laws_toWindow.f laws_toPlan.f
  rw [toRobotS_ev rs hrs k (by omega), toIntS_ev ws hws k (by omega), toWayS_ev ways hwz hww k (by omega), toJobS_ev js hjs k (by omega), toIntS_ev gs hgs k (by omega)]
  rfl

/-! the size of a yard -/
theorem rdZWay (xs : List S185) (i : Nat) (h : i < xs.length) : rd_T185 xs (i : Int) = xs[i] := by simp [rd_T185, List.getD, h]
theorem szWayS_l (xs : List S185) (hb : xs.length ≤ 1048576) (hw : ∀ x ∈ xs, x.f0.length * 8 ≤ 140737488351232) : ∀ (d i k : Nat) (b : Int), i + d = xs.length → d < k → 0 ≤ b → b ≤ 1048576 →
    ∃ t, laws_szWayS.l0 k xs b (i : Int) = some t ∧ t ≤ b ∧ (0 ≤ t → ∀ j (hj : j < xs.length), i ≤ j → xs[j].f0.length ≤ 1048576) := by
  intro d
  induction d with
  | zero =>
    intro i k b h hk h0 h1
    obtain ⟨k, rfl⟩ := ksucc hk
    rw [laws_szWayS.l0, if_neg (by omega)]
    exact ⟨b, rfl, by omega, fun _ j hj hij => by omega⟩
  | succ d ih =>
    intro i k b h hk h0 h1
    obtain ⟨k, rfl⟩ := ksucc hk
    have hi : i < xs.length := by omega
    have hwi := hw _ (List.getElem_mem hi)
    rw [laws_szWayS.l0, if_pos (by omega), if_pos (by omega), rdZWay xs i hi]
    unfold laws_szWay.f laws_szIntS.f
    rw [w64 (x := b - _) (by omega) (by omega), wnat (i := i) (by omega)]
    by_cases h2 : b - (xs[i].f0.length : Int) < 0
    · rw [if_pos h2]
      exact ⟨-1, rfl, by omega, fun h => by omega⟩
    · rw [if_neg h2]
      simp only [Option.bind_some]
      rw [if_neg h2]
      simp only [Option.bind_some]
      rw [if_neg h2]
      obtain ⟨t, e, h3, h4⟩ := ih (i + 1) k (b - (xs[i].f0.length : Int)) (by omega) (by omega) (by omega) (by omega)
      refine ⟨t, e, by omega, fun ht j hj hij => ?_⟩
      by_cases hij' : i = j
      · subst hij'; omega
      · exact h4 ht j hj (by omega)
theorem szWayS_ev (xs : List S185) (hz : xs.length * 24 ≤ 140737488351232) (hw : ∀ x ∈ xs, x.f0.length * 8 ≤ 140737488351232) (k : Nat) (hk : xs.length < k) (b : Int) (h0 : 0 ≤ b) (h1 : b ≤ 1048576) :
    ∃ t, laws_szWayS.f k xs b = some t ∧ t ≤ b ∧ (0 ≤ t → xs.length ≤ 1048576 ∧ ∀ x ∈ xs, x.f0.length ≤ 1048576) := by
  unfold laws_szWayS.f
  rw [w64 (by omega) (by omega)]
  by_cases h2 : b - (xs.length : Int) < 0
  · rw [if_pos h2]
    exact ⟨-1, rfl, by omega, fun h => by omega⟩
  · rw [if_neg h2]
    obtain ⟨t, e, h3, h4⟩ := szWayS_l xs (by omega) hw xs.length 0 k (b - xs.length) (by omega) hk (by omega) (by omega)
    refine ⟨t, e, by omega, fun ht => ⟨by omega, fun x hx => ?_⟩⟩
    obtain ⟨j, hj, rfl⟩ := List.mem_iff_getElem.1 hx
    exact h4 ht j hj (by omega)
theorem szYard_ev (k : Nat) (w h : Int) (s : ByteArray) (a b c z : Int) (rs : List S153) (d e : Int) (ws : List Int) (f : Int) (g : Bool) (l m : Int) (ways : List S185) (js : List S156) (gs : List Int)
    (hs : s.size ≤ 140737488351232) (hrs : rs.length * 32 ≤ 140737488351232) (hws : ws.length * 8 ≤ 140737488351232) (hwz : ways.length * 24 ≤ 140737488351232) (hww : ∀ x ∈ ways, x.f0.length * 8 ≤ 140737488351232) (hjs : js.length * 24 ≤ 140737488351232) (hgs : gs.length * 8 ≤ 140737488351232) (hk : ways.length < k) :
    ∃ t, laws_szYard.f k w h s a b c z rs d e ws f g l m ways js gs 1048576 = some t ∧
      (0 ≤ t → s.size ≤ 1048576 ∧ rs.length ≤ 1048576 ∧ ws.length ≤ 1048576 ∧ ways.length ≤ 1048576 ∧ (∀ x ∈ ways, x.f0.length ≤ 1048576) ∧ js.length ≤ 1048576 ∧ gs.length ≤ 1048576) := by
  unfold laws_szYard.f laws_szSetup.f laws_szGrid.f laws_szRobotS.f laws_szWindow.f laws_szPlan.f laws_szJobS.f laws_szIntS.f
  rw [w64 (x := 1048576 - _) (by omega) (by omega)]
  have bad : ∀ (o : Option Int) (P : Prop), o = some (-1) → ∃ t, o = some t ∧ (0 ≤ t → P) := fun o P e => ⟨-1, e, fun h => by omega⟩
  by_cases h1 : 1048576 - (s.size : Int) < 0
  · refine bad _ _ ?_; simp [h1]
  simp only [if_neg h1, Option.bind_some]
  rw [w64 (x := 1048576 - (s.size : Int) - _) (by omega) (by omega)]
  by_cases h2 : 1048576 - (s.size : Int) - (rs.length : Int) < 0
  · refine bad _ _ ?_; simp [h2]
  simp only [if_neg h2, Option.bind_some]
  rw [w64 (x := 1048576 - (s.size : Int) - (rs.length : Int) - _) (by omega) (by omega)]
  by_cases h3 : 1048576 - (s.size : Int) - (rs.length : Int) - (ws.length : Int) < 0
  · refine bad _ _ ?_; simp [h3]
  simp only [if_neg h3, Option.bind_some]
  obtain ⟨t, e1, e2, e3⟩ := szWayS_ev ways hwz hww k hk (1048576 - (s.size : Int) - (rs.length : Int) - (ws.length : Int)) (by omega) (by omega)
  rw [e1]
  simp only [Option.bind_some]
  by_cases h4 : t < 0
  · refine bad _ _ ?_; simp [h4]
  simp only [if_neg h4, Option.bind_some]
  obtain ⟨e4, e5⟩ := e3 (by omega)
  rw [w64 (x := t - _) (by omega) (by omega)]
  by_cases h5 : t - (js.length : Int) < 0
  · refine bad _ _ ?_; simp [h5]
  simp only [if_neg h5, Option.bind_some]
  rw [w64 (x := t - (js.length : Int) - _) (by omega) (by omega)]
  by_cases h6 : t - (js.length : Int) - (gs.length : Int) < 0
  · refine bad _ _ ?_; simp [h6]
  simp only [if_neg h6, Option.bind_some]
  exact ⟨_, rfl, fun _ => ⟨by omega, by omega, by omega, e4, e5, by omega, by omega⟩⟩

/-! lists of numbers, compared -/
theorem rdN (xs : List Int) (i : Nat) (h : i < xs.length) : rd xs (i : Int) = xs[i] := by simp [rd, List.getD, h]
theorem eqIntS_l (xs : List Int) (hb : xs.length ≤ 16777216) : ∀ (d i k : Nat), i + d = xs.length → d < k → laws_eqIntS.l0 k xs xs (i : Int) = some true := by
  intro d
  induction d with
  | zero =>
    intro i k h hk
    obtain ⟨k, rfl⟩ := ksucc hk
    rw [laws_eqIntS.l0, if_neg (by omega)]
  | succ d ih =>
    intro i k h hk
    obtain ⟨k, rfl⟩ := ksucc hk
    rw [laws_eqIntS.l0, if_pos (by omega), if_pos (by omega), if_pos (by omega), if_pos rfl, wnat (by omega)]
    exact ih (i + 1) k (by omega) (by omega)
theorem eqIntS_ev (xs : List Int) (hb : xs.length ≤ 16777216) (k : Nat) (hk : xs.length < k) : laws_eqIntS.f k xs xs = some true := by
  unfold laws_eqIntS.f
  rw [if_pos rfl]
  exact eqIntS_l xs hb xs.length 0 k (by omega) hk

/-! Robots, compared -/
theorem rdIRobot (xs : List S84) (i : Nat) (h : i < xs.length) : rd_T84 xs (i : Int) = xs[i] := by simp [rd_T84, List.getD, h]
theorem eqRobot_refl (x0 : Int) (x1 : Int) (x2 : Int) (x3 : Bool) : laws_eqRobot.f x0 x1 x2 x3 x0 x1 x2 x3 = some true := by simp [laws_eqRobot.f]
theorem eqRobotS_l (xs : List S84) (hb : xs.length ≤ 1048576) : ∀ (d i k : Nat), i + d = xs.length → d < k → laws_eqRobotS.l0 k xs xs (i : Int) = some true := by
  intro d
  induction d with
  | zero =>
    intro i k h hk
    obtain ⟨k, rfl⟩ := ksucc hk
    simp only [laws_eqRobotS.l0]
    rw [if_neg (by omega)]
  | succ d ih =>
    intro i k h hk
    obtain ⟨k, rfl⟩ := ksucc hk
    simp only [laws_eqRobotS.l0, eqRobot_refl, Option.bind_some]
    rw [if_pos (by omega), if_pos (by omega), if_pos (by omega), if_pos trivial, wnat (by omega)]
    exact ih (i + 1) k (by omega) (by omega)
theorem eqRobotS_ev (xs : List S84) (hb : xs.length ≤ 1048576) (k : Nat) (hk : xs.length < k) : laws_eqRobotS.f k xs xs = some true := by
  unfold laws_eqRobotS.f
  rw [if_pos rfl]
  exact eqRobotS_l xs hb xs.length 0 k (by omega) hk

/-! ways, compared -/
theorem rdIWay (xs : List S143) (i : Nat) (h : i < xs.length) : rd_T143 xs (i : Int) = xs[i] := by simp [rd_T143, List.getD, h]
theorem eqWayS_l (xs : List S143) (hb : xs.length ≤ 1048576) (hw : ∀ x ∈ xs, x.f0.length ≤ 1048576) : ∀ (d i k : Nat), i + d = xs.length → d + 1048577 < k → laws_eqWayS.l0 k xs xs (i : Int) = some true := by
  intro d
  induction d with
  | zero =>
    intro i k h hk
    obtain ⟨k, rfl⟩ := ksucc (show 0 < k by omega)
    simp only [laws_eqWayS.l0]
    rw [if_neg (by omega)]
  | succ d ih =>
    intro i k h hk
    obtain ⟨k, rfl⟩ := ksucc (show 0 < k by omega)
    have hi : i < xs.length := by omega
    have hwi := hw _ (List.getElem_mem hi)
    simp only [laws_eqWayS.l0]
    rw [if_pos (by omega), if_pos (by omega), if_pos (by omega), rdIWay xs i hi]
    unfold laws_eqWay.f
    rw [eqIntS_ev _ (by omega) k (by omega)]
    simp only [Option.bind_some]
    rw [if_pos trivial]
    simp only [Option.bind_some]
    rw [if_pos trivial, wnat (by omega)]
    exact ih (i + 1) k (by omega) (by omega)
theorem eqWayS_ev (xs : List S143) (hb : xs.length ≤ 1048576) (hw : ∀ x ∈ xs, x.f0.length ≤ 1048576) (k : Nat) (hk : xs.length + 1048577 < k) : laws_eqWayS.f k xs xs = some true := by
  unfold laws_eqWayS.f
  rw [if_pos rfl]
  exact eqWayS_l xs hb hw xs.length 0 k (by omega) hk

/-! Jobs, compared -/
theorem rdIJob (xs : List S141) (i : Nat) (h : i < xs.length) : rd_T141 xs (i : Int) = xs[i] := by simp [rd_T141, List.getD, h]
theorem eqJob_refl (x0 : Int) (x1 : Int) (x2 : Bool) : laws_eqJob.f x0 x1 x2 x0 x1 x2 = some true := by simp [laws_eqJob.f]
theorem eqJobS_l (xs : List S141) (hb : xs.length ≤ 1048576) : ∀ (d i k : Nat), i + d = xs.length → d < k → laws_eqJobS.l0 k xs xs (i : Int) = some true := by
  intro d
  induction d with
  | zero =>
    intro i k h hk
    obtain ⟨k, rfl⟩ := ksucc hk
    simp only [laws_eqJobS.l0]
    rw [if_neg (by omega)]
  | succ d ih =>
    intro i k h hk
    obtain ⟨k, rfl⟩ := ksucc hk
    simp only [laws_eqJobS.l0, eqJob_refl, Option.bind_some]
    rw [if_pos (by omega), if_pos (by omega), if_pos (by omega), if_pos trivial, wnat (by omega)]
    exact ih (i + 1) k (by omega) (by omega)
theorem eqJobS_ev (xs : List S141) (hb : xs.length ≤ 1048576) (k : Nat) (hk : xs.length < k) : laws_eqJobS.f k xs xs = some true := by
  unfold laws_eqJobS.f
  rw [if_pos rfl]
  exact eqJobS_l xs hb xs.length 0 k (by omega) hk

/-! a yard, compared with itself -/
theorem eqYard_ev (k : Nat) (w h : Int) (s : ByteArray) (a b c z : Int) (rs : List S84) (d e : Int) (ws : List Int) (f : Int) (g : Bool) (l m : Int) (ways : List S143) (js : List S141) (gs : List Int)
    (hrs : rs.length ≤ 1048576) (hws : ws.length ≤ 1048576) (hwz : ways.length ≤ 1048576) (hww : ∀ x ∈ ways, x.f0.length ≤ 1048576) (hjs : js.length ≤ 1048576) (hgs : gs.length ≤ 1048576) (hk : 2097153 < k) :
    laws_eqYard.f k w h s a b c z rs d e ws f g l m ways js gs w h s a b c z rs d e ws f g l m ways js gs = some true := by
  unfold laws_eqYard.f laws_eqSetup.f laws_eqGrid.f laws_eqWindow.f laws_eqPlan.f
  rw [eqRobotS_ev rs hrs k (by omega), eqIntS_ev ws (by omega) k (by omega), eqWayS_ev ways hwz hww k (by omega), eqJobS_ev js hjs k (by omega), eqIntS_ev gs (by omega) k (by omega)]
  simp

/-! the cells around a cell, and the steps from one cell -/
def aroundL (w h : Int) (s : ByteArray) (c : Int) : List Int :=
  (if freeB s (c - w) = true then [c - w] else []) ++ (if 0 < Int.tmod c w ∧ freeB s (c - 1) = true then [c - 1] else []) ++ (if Int.tmod c w < w - 1 ∧ freeB s (c + 1) = true then [c + 1] else []) ++ (if freeB s (c + w) = true then [c + w] else [])
theorem freeB_rng {s : ByteArray} {c : Int} (h : freeB s c = true) : 0 ≤ c ∧ c < s.size := by
  unfold freeB at h
  rw [Bool.and_eq_true] at h
  exact of_decide_eq_true h.1
theorem freeB_neg (s : ByteArray) {c : Int} (h : c < 0) : freeB s c = false := by
  cases hf : freeB s c
  · rfl
  · have := (freeB_rng hf).1; omega
theorem aroundL_mem {w h : Int} {s : ByteArray} {c t : Int} (hw : 1 ≤ w) (ht : t ∈ aroundL w h s c) : freeB s t = true ∧ t ≠ c := by
  unfold aroundL at ht
  simp only [List.mem_append] at ht
  rcases ht with ((ht | ht) | ht) | ht
  · split at ht
    · rw [List.mem_singleton] at ht; subst ht; exact ⟨by assumption, by omega⟩
    · simp at ht
  · split at ht
    · rename_i hh; rw [List.mem_singleton] at ht; subst ht; exact ⟨hh.2, by omega⟩
    · simp at ht
  · split at ht
    · rename_i hh; rw [List.mem_singleton] at ht; subst ht; exact ⟨hh.2, by omega⟩
    · simp at ht
  · split at ht
    · rw [List.mem_singleton] at ht; subst ht; exact ⟨by assumption, by omega⟩
    · simp at ht
theorem aroundL_len (w h : Int) (s : ByteArray) (c : Int) : (aroundL w h s c).length ≤ 4 := by
  unfold aroundL
  simp only [List.length_append]
  repeat' split
  all_goals simp
theorem l01In_eq' (x a b : Int) : spec_l01In.f x a b = some (decide (a ≤ x ∧ x ≤ b)) := by
  unfold spec_l01In.f
  by_cases h1 : x ≥ a
  · rw [if_pos h1]
    exact congrArg some (decide_eq_decide.2 ⟨fun g => ⟨h1, g⟩, fun g => g.2⟩)
  · rw [if_neg h1, decide_eq_false (fun g => h1 g.1)]
theorem gridB_iff {w h : Int} {s : ByteArray} (hg : gridB w h s = true) : (1 ≤ w ∧ w ≤ 8) ∧ (1 ≤ h ∧ h ≤ 8) ∧ (s.size : Int) = w * h := by
  unfold gridB at hg
  rw [Bool.and_eq_true] at hg
  have := of_decide_eq_true hg.1
  exact ⟨this.1.1, this.1.2, this.2⟩
theorem gridB_size {w h : Int} {s : ByteArray} (hg : gridB w h s = true) : 1 ≤ s.size ∧ s.size ≤ 64 := by
  obtain ⟨h1, h2, h3⟩ := gridB_iff hg
  have := mul_rng h1 h2
  omega
theorem cellAt_ev (w h : Int) (s : ByteArray) (hg : gridB w h s = true) (x y : Int) (hx : -2 ≤ x ∧ x ≤ 100) (hy : -2 ≤ y ∧ y ≤ 100) (k : Nat) (hk : s.size + 2 ≤ k) :
    spec_CellAt.f k w h s x y = some (if (0 ≤ x ∧ x ≤ w - 1) ∧ (0 ≤ y ∧ y ≤ h - 1) then y * w + x else -1) := by
  obtain ⟨h1, h2, h3⟩ := gridB_iff hg
  have h4 := gridB_size hg
  unfold spec_CellAt.f
  rw [specGrid_ev w h s (by omega) k hk, hg]
  simp only [Option.bind_some, if_true, l01In_eq', decide_eq_true_eq]
  rw [w64 (x := w - 1) (by omega) (by omega), w64 (x := h - 1) (by omega) (by omega)]
  by_cases hx2 : 0 ≤ x ∧ x ≤ w - 1
  · rw [if_pos hx2]
    by_cases hy2 : 0 ≤ y ∧ y ≤ h - 1
    · have hyw : 0 ≤ y * w ∧ y * w ≤ 800 := by
        constructor
        · exact Int.mul_nonneg hy2.1 (by omega)
        · have : y * w ≤ 100 * w := Int.mul_le_mul_of_nonneg_right hy.2 (by omega)
          omega
      rw [if_pos hy2, if_pos ⟨hx2, hy2⟩, w64 (x := y * w) (by omega) (by omega), w64 (by omega) (by omega)]
    · rw [if_neg hy2, if_neg (fun g => hy2 g.2)]
  · rw [if_neg hx2, if_neg (fun g => hx2 g.1)]
theorem around_filter_l (w h : Int) (s : ByteArray) (hg : gridB w h s = true) (x : List Int) (hx : x.length = 4) : ∀ (d i k : Nat) (acc : List Int), i + d = 4 → s.size + 2 + d < k → acc.length ≤ i → spec_Around.l0 k acc x (i : Int) w h s = some (acc ++ (x.drop i).filter (freeB s)) := by
  have h4 := gridB_size hg
  intro d
  induction d with
  | zero =>
    intro i k acc h hk ha
    obtain ⟨k, rfl⟩ := ksucc (show 0 < k by omega)
    rw [spec_Around.l0, if_neg (by omega), List.drop_of_length_le (by omega)]
    simp
  | succ d ih =>
    intro i k acc h' hk ha
    obtain ⟨k, rfl⟩ := ksucc (show 0 < k by omega)
    have hi : i < x.length := by omega
    rw [spec_Around.l0, if_pos (by omega), if_pos (by omega), if_pos (by omega), specFree_ev w h s _ (by omega) k (by omega), hg, List.drop_eq_getElem_cons hi, wnat (by omega)]
    have hr : rd x (i : Int) = x[i] := rdN _ i hi
    rw [hr]
    simp only [Option.bind_some, Bool.true_and]
    cases hf : freeB s x[i]
    · rw [if_neg (by simp), ih (i + 1) k acc (by omega) (by omega) (by omega), List.filter_cons_of_neg (by simp [hf])]
    · rw [if_pos rfl, if_pos (by omega), ih (i + 1) k (acc ++ [x[i]]) (by omega) (by omega) (by simp; omega), List.filter_cons_of_pos hf, List.append_assoc]
      rfl
theorem mod_div (c w : Int) (h0 : 0 ≤ c) (h1 : 1 ≤ w) : 0 ≤ Int.tmod c w ∧ Int.tmod c w < w ∧ 0 ≤ Int.tdiv c w ∧ Int.tdiv c w * w + Int.tmod c w = c ∧ Int.tdiv c w ≤ c := by
  have e1 : Int.tmod c w = c % w := Int.tmod_eq_emod_of_nonneg h0
  have e2 : Int.tdiv c w = c / w := Int.tdiv_eq_ediv_of_nonneg h0
  rw [e1, e2]
  refine ⟨Int.emod_nonneg _ (by omega), Int.emod_lt_of_pos _ (by omega), Int.ediv_nonneg h0 (by omega), ?_, ?_⟩
  · have := Int.ediv_mul_add_emod c w; omega
  · exact Int.ediv_le_self _ h0
theorem filter4 (p : Int → Bool) (a b c d : Int) : [a, b, c, d].filter p = (if p a = true then [a] else []) ++ (if p b = true then [b] else []) ++ (if p c = true then [c] else []) ++ (if p d = true then [d] else []) := by
  simp only [List.filter_cons, List.filter_nil]
  cases p a <;> cases p b <;> cases p c <;> cases p d <;> rfl
set_option maxHeartbeats 1000000 in
theorem specAround_ev (w h : Int) (s : ByteArray) (hg : gridB w h s = true) (c : Int) (hc : freeB s c = true) (k : Nat) (hk : s.size + 20 ≤ k) : spec_Around.f k w h s c = some (aroundL w h s c) := by
  obtain ⟨g1, g2, g3⟩ := gridB_iff hg
  have g4 := gridB_size hg
  have hr := freeB_rng hc
  obtain ⟨m1, m2, m3, m4, m5⟩ := mod_div c w hr.1 g1.1
  obtain ⟨x, hx⟩ : ∃ x, Int.tmod c w = x := ⟨_, rfl⟩
  obtain ⟨y, hy⟩ : ∃ y, Int.tdiv c w = y := ⟨_, rfl⟩
  have hyh : y ≤ h - 1 := by
    rw [hx, hy] at m4
    by_cases hlt : y < h
    · omega
    · have : h * w ≤ y * w := Int.mul_le_mul_of_nonneg_right (by omega) (by omega)
      have e : w * h = h * w := Int.mul_comm w h
      rw [hx] at m1
      omega
  unfold spec_Around.f spec_SpotOf.f
  rw [specFree_ev w h s c (by omega) k (by omega), specGrid_ev w h s (by omega) k (by omega), hg, hc]
  simp only [Option.bind_some, Bool.true_and, if_true]
  rw [if_neg (by omega), if_neg (by omega), if_neg (by omega)]
  simp only [Option.bind_some]
  rw [hx, hy]
  rw [hx] at m1 m2 m4
  rw [hy] at m3 m4 m5
  rw [w64 (x := y) (by omega) (by omega), w64 (x := y - 1) (by omega) (by omega), w64 (x := x - 1) (by omega) (by omega), w64 (x := x + 1) (by omega) (by omega), w64 (x := y + 1) (by omega) (by omega)]
  rw [cellAt_ev w h s hg x (y - 1) (by omega) (by omega) k (by omega), cellAt_ev w h s hg (x - 1) y (by omega) (by omega) k (by omega), cellAt_ev w h s hg (x + 1) y (by omega) (by omega) k (by omega), cellAt_ev w h s hg x (y + 1) (by omega) (by omega) k (by omega)]
  simp only [Option.bind_some]
  have hl := around_filter_l w h s hg [if (0 ≤ x ∧ x ≤ w - 1) ∧ (0 ≤ y - 1 ∧ y - 1 ≤ h - 1) then (y - 1) * w + x else -1, if (0 ≤ x - 1 ∧ x - 1 ≤ w - 1) ∧ (0 ≤ y ∧ y ≤ h - 1) then y * w + (x - 1) else -1, if (0 ≤ x + 1 ∧ x + 1 ≤ w - 1) ∧ (0 ≤ y ∧ y ≤ h - 1) then y * w + (x + 1) else -1, if (0 ≤ x ∧ x ≤ w - 1) ∧ (0 ≤ y + 1 ∧ y + 1 ≤ h - 1) then (y + 1) * w + x else -1] rfl 4 0 k [] (by omega) (by omega) (by simp)
  rw [show ((0 : Nat) : Int) = 0 from rfl] at hl
  refine hl.trans (congrArg some ?_)
  rw [List.nil_append, List.drop_zero]
  have neg1 : freeB s (-1) = false := freeB_neg s (by omega)
  have f1 : (if freeB s (if (0 ≤ x ∧ x ≤ w - 1) ∧ (0 ≤ y - 1 ∧ y - 1 ≤ h - 1) then (y - 1) * w + x else -1) = true then [if (0 ≤ x ∧ x ≤ w - 1) ∧ (0 ≤ y - 1 ∧ y - 1 ≤ h - 1) then (y - 1) * w + x else -1] else ([] : List Int)) = if freeB s (c - w) = true then [c - w] else [] := by
    by_cases h1 : 1 ≤ y
    · rw [if_pos (show (0 ≤ x ∧ x ≤ w - 1) ∧ (0 ≤ y - 1 ∧ y - 1 ≤ h - 1) by omega), show (y - 1) * w + x = c - w by rw [Int.sub_mul]; omega]
    · rw [if_neg (show ¬ ((0 ≤ x ∧ x ≤ w - 1) ∧ (0 ≤ y - 1 ∧ y - 1 ≤ h - 1)) by omega), neg1, freeB_neg s (by have h0 : y = 0 := (by omega); rw [h0] at m4; omega)]
      simp
  have f2 : (if freeB s (if (0 ≤ x - 1 ∧ x - 1 ≤ w - 1) ∧ (0 ≤ y ∧ y ≤ h - 1) then y * w + (x - 1) else -1) = true then [if (0 ≤ x - 1 ∧ x - 1 ≤ w - 1) ∧ (0 ≤ y ∧ y ≤ h - 1) then y * w + (x - 1) else -1] else ([] : List Int)) = if 0 < x ∧ freeB s (c - 1) = true then [c - 1] else [] := by
    by_cases h1 : 1 ≤ x
    · rw [if_pos (show (0 ≤ x - 1 ∧ x - 1 ≤ w - 1) ∧ (0 ≤ y ∧ y ≤ h - 1) by omega), show y * w + (x - 1) = c - 1 by omega]
      cases freeB s (c - 1)
      · simp
      · rw [if_pos rfl, if_pos ⟨by omega, rfl⟩]
    · rw [if_neg (show ¬ ((0 ≤ x - 1 ∧ x - 1 ≤ w - 1) ∧ (0 ≤ y ∧ y ≤ h - 1)) by omega), neg1, if_neg (by simp), if_neg (by omega)]
  have f3 : (if freeB s (if (0 ≤ x + 1 ∧ x + 1 ≤ w - 1) ∧ (0 ≤ y ∧ y ≤ h - 1) then y * w + (x + 1) else -1) = true then [if (0 ≤ x + 1 ∧ x + 1 ≤ w - 1) ∧ (0 ≤ y ∧ y ≤ h - 1) then y * w + (x + 1) else -1] else ([] : List Int)) = if x < w - 1 ∧ freeB s (c + 1) = true then [c + 1] else [] := by
    by_cases h1 : x < w - 1
    · rw [if_pos (show (0 ≤ x + 1 ∧ x + 1 ≤ w - 1) ∧ (0 ≤ y ∧ y ≤ h - 1) by omega), show y * w + (x + 1) = c + 1 by omega]
      cases freeB s (c + 1)
      · simp
      · rw [if_pos rfl, if_pos ⟨by omega, rfl⟩]
    · rw [if_neg (show ¬ ((0 ≤ x + 1 ∧ x + 1 ≤ w - 1) ∧ (0 ≤ y ∧ y ≤ h - 1)) by omega), neg1, if_neg (by simp), if_neg (by omega)]
  have f4 : (if freeB s (if (0 ≤ x ∧ x ≤ w - 1) ∧ (0 ≤ y + 1 ∧ y + 1 ≤ h - 1) then (y + 1) * w + x else -1) = true then [if (0 ≤ x ∧ x ≤ w - 1) ∧ (0 ≤ y + 1 ∧ y + 1 ≤ h - 1) then (y + 1) * w + x else -1] else ([] : List Int)) = if freeB s (c + w) = true then [c + w] else [] := by
    by_cases h1 : y + 1 ≤ h - 1
    · rw [if_pos (show (0 ≤ x ∧ x ≤ w - 1) ∧ (0 ≤ y + 1 ∧ y + 1 ≤ h - 1) by omega), show (y + 1) * w + x = c + w by rw [Int.add_mul]; omega]
    · have hn : freeB s (c + w) = false := by
        cases hf : freeB s (c + w)
        · rfl
        · have h5 := (freeB_rng hf).2
          have : y = h - 1 := by omega
          rw [this, Int.sub_mul] at m4
          have e : w * h = h * w := Int.mul_comm w h
          omega
      rw [if_neg (show ¬ ((0 ≤ x ∧ x ≤ w - 1) ∧ (0 ≤ y + 1 ∧ y + 1 ≤ h - 1)) by omega), neg1, hn]
      simp
  unfold aroundL
  rw [filter4, f1, f2, f3, f4, hx]
theorem implAround_ev (w h : Int) (s : ByteArray) (hg : gridB w h s = true) (c : Int) (hc : freeB s c = true) (k : Nat) (hk : s.size + 20 ≤ k) : impl_Around.f k w h s c = some (aroundL w h s c) := by
  obtain ⟨g1, g2, g3⟩ := gridB_iff hg
  have g4 := gridB_size hg
  have hr := freeB_rng hc
  obtain ⟨k, rfl⟩ : ∃ m, k = m + 4 := ⟨k - 4, by omega⟩
  have j3 : ∀ (k : Nat) (acc : List Int) (b : Bool), acc.length ≤ 2 → impl_around.j3 (k + 1) c acc b w h s = some (acc ++ (if b = true then [c + 1] else []) ++ (if freeB s (c + w) = true then [c + w] else [])) := by
    intro k acc b ha
    rw [impl_around.j3, w64 (x := c + 1) (by omega) (by omega), w64 (x := c + w) (by omega) (by omega), implFree_ev]
    cases b
    · rw [if_neg (by simp)]
      simp only [Option.bind_some]
      cases freeB s (c + w)
      · simp
      · rw [if_pos rfl, if_pos (by omega)]; simp
    · rw [if_pos rfl, if_pos (by omega)]
      simp only [Option.bind_some]
      cases freeB s (c + w)
      · simp
      · rw [if_pos rfl, if_pos (by simp; omega)]; simp
  have j2 : ∀ (k : Nat) (acc : List Int), acc.length ≤ 2 → impl_around.j2 (k + 2) c acc w h s = some (acc ++ (if Int.tmod c w < w - 1 ∧ freeB s (c + 1) = true then [c + 1] else []) ++ (if freeB s (c + w) = true then [c + w] else [])) := by
    intro k acc ha
    rw [impl_around.j2, if_neg (by omega), w64 (x := w - 1) (by omega) (by omega), w64 (x := c + 1) (by omega) (by omega), implFree_ev]
    by_cases h1 : Int.tmod c w < w - 1
    · rw [if_pos h1]
      simp only [Option.bind_some]
      rw [j3 k acc _ ha]
      simp only [h1, true_and]
    · rw [if_neg h1, j3 k acc _ ha]
      simp only [h1, false_and, if_false, Bool.false_eq_true]
  have j1 : ∀ (k : Nat) (acc : List Int) (b : Bool), acc.length ≤ 1 → impl_around.j1 (k + 3) c acc b w h s = some (acc ++ (if b = true then [c - 1] else []) ++ (if Int.tmod c w < w - 1 ∧ freeB s (c + 1) = true then [c + 1] else []) ++ (if freeB s (c + w) = true then [c + w] else [])) := by
    intro k acc b ha
    rw [impl_around.j1, w64 (x := c - 1) (by omega) (by omega)]
    cases b
    · rw [if_neg (by simp), j2 k acc (by omega)]; simp
    · rw [if_pos rfl, if_pos (by omega), j2 k _ (by simp; omega)]; simp
  have j0 : ∀ (k : Nat) (acc : List Int), acc.length ≤ 1 → impl_around.j0 (k + 4) c acc w h s = some (acc ++ (if 0 < Int.tmod c w ∧ freeB s (c - 1) = true then [c - 1] else []) ++ (if Int.tmod c w < w - 1 ∧ freeB s (c + 1) = true then [c + 1] else []) ++ (if freeB s (c + w) = true then [c + w] else [])) := by
    intro k acc ha
    rw [impl_around.j0, if_neg (by omega), w64 (x := c - 1) (by omega) (by omega), implFree_ev]
    by_cases h1 : 0 < Int.tmod c w
    · rw [if_pos (show Int.tmod c w > 0 from h1)]
      simp only [Option.bind_some]
      rw [j1 k acc _ ha]
      simp only [h1, true_and]
    · rw [if_neg (show ¬ Int.tmod c w > 0 from h1), j1 k acc _ ha]
      simp only [h1, false_and, if_false, Bool.false_eq_true]
  unfold impl_Around.f impl_around.f
  rw [implGrid_ev w h s (by omega) (k + 4) (by omega), hg]
  simp only [Option.bind_some, if_true]
  rw [implFree_ev, implFree_ev, hc, w64 (x := c - w) (by omega) (by omega)]
  simp only [Option.bind_some, if_true]
  unfold aroundL
  cases freeB s (c - w)
  · rw [if_neg (by simp), j0 k [] (by simp)]; simp
  · rw [if_pos rfl, if_pos (by simp), j0 k _ (by simp)]; simp

/-! is a number in a list -/
theorem rdH (xs : List Int) (i : Nat) (h : i < xs.length) : rd xs (i : Int) = xs[i] := by simp [rd, List.getD, h]
theorem specHas_l (xs : List Int) (x : Int) (hb : xs.length ≤ 16777216) : ∀ (d i k : Nat), i + d = xs.length → d < k → spec_l03Has.l0 k xs x (i : Int) = some ((xs.drop i).contains x) := by
  intro d
  induction d with
  | zero =>
    intro i k h hk
    obtain ⟨k, rfl⟩ := ksucc hk
    rw [spec_l03Has.l0, if_neg (by omega), List.drop_eq_nil_of_le (by omega)]
    rfl
  | succ d ih =>
    intro i k h hk
    obtain ⟨k, rfl⟩ := ksucc hk
    have hi : i < xs.length := by omega
    rw [spec_l03Has.l0, if_pos (by omega), if_pos (by omega), rdH xs i hi, wnat (by omega), ih (i + 1) k (by omega) (by omega), List.drop_eq_getElem_cons hi, List.contains_cons]
    by_cases e : xs[i] = x
    · rw [if_pos e, show (x == xs[i]) = true by simp [e]]; rfl
    · rw [if_neg e, show (x == xs[i]) = false by simpa using fun h => e h.symm, Bool.false_or]
theorem specHas_ev (xs : List Int) (x : Int) (hb : xs.length ≤ 16777216) (k : Nat) (hk : xs.length < k) : spec_l03Has.f k xs x = some (xs.contains x) := by
  have := specHas_l xs x hb xs.length 0 k (by omega) hk
  rwa [List.drop_zero] at this
theorem implIdx_l (xs : List Int) (x : Int) (hb : xs.length ≤ 16777216) : ∀ (d i k : Nat), i + d = xs.length → d < k → ∃ r, slices_Index_int_int.l0 k xs x (xs.length : Int) (i : Int) = some r ∧ decide (r ≥ 0) = (xs.drop i).contains x := by
  intro d
  induction d with
  | zero =>
    intro i k h hk
    obtain ⟨k, rfl⟩ := ksucc hk
    rw [slices_Index_int_int.l0, if_neg (by omega), List.drop_eq_nil_of_le (by omega)]
    exact ⟨-1, rfl, rfl⟩
  | succ d ih =>
    intro i k h hk
    obtain ⟨k, rfl⟩ := ksucc hk
    have hi : i < xs.length := by omega
    rw [slices_Index_int_int.l0, if_pos (by omega), if_pos (by omega), if_pos (by omega), rdH xs i hi, wnat (by omega), List.drop_eq_getElem_cons hi, List.contains_cons]
    by_cases e : x = xs[i]
    · rw [if_pos e, show (x == xs[i]) = true by simpa using e]
      exact ⟨i, rfl, by simp⟩
    · rw [if_neg e, show (x == xs[i]) = false by simpa using e, Bool.false_or]
      exact ih (i + 1) k (by omega) (by omega)
theorem implHas_ev (xs : List Int) (x : Int) (hb : xs.length ≤ 16777216) (k : Nat) (hk : xs.length < k) : slices_Contains_int_int.f k xs x = some (xs.contains x) := by
  unfold slices_Contains_int_int.f slices_Index_int_int.f
  obtain ⟨r, e, h⟩ := implIdx_l xs x hb xs.length 0 k (by omega) hk
  rw [show ((0 : Nat) : Int) = 0 from rfl] at e
  rw [e, Option.bind_some, h, List.drop_zero]

/-! the steps from one cell: which cells are one step off -/
def markL (v : Int) : List Int → List Int → List Int
  | out, [] => out
  | out, t :: A => markL v (if out.getD t.toNat 0 < 0 then out.set t.toNat v else out) A
theorem markL_length (v : Int) : ∀ (A out : List Int), (markL v out A).length = out.length
  | [], out => rfl
  | t :: A, out => by
    rw [markL, markL_length v A]
    split <;> simp
theorem getD_set (out : List Int) (i p : Nat) (v : Int) (hi : i < out.length) : (out.set i v).getD p 0 = if p = i then v else out.getD p 0 := by
  by_cases h : p = i
  · subst h; simp [List.getD, hi]
  · rw [if_neg h]; simp [List.getD, List.getElem?_set, show ¬ i = p from fun e => h e.symm]
theorem markL_get (v : Int) (hv : 0 ≤ v) : ∀ (A out : List Int), (∀ t ∈ A, 0 ≤ t ∧ t < (out.length : Int)) → ∀ p : Nat, (markL v out A).getD p 0 = if (p : Int) ∈ A ∧ out.getD p 0 < 0 then v else out.getD p 0
  | [], out, _, p => by simp [markL]
  | t :: A, out, h, p => by
    have ht := h t (by simp)
    have hA : ∀ o : List Int, o.length = out.length → ∀ t ∈ A, 0 ≤ t ∧ t < (o.length : Int) := fun o ho t h' => by rw [ho]; exact h t (by simp [h'])
    rw [markL]
    by_cases hn : out.getD t.toNat 0 < 0
    · rw [if_pos hn, markL_get v hv A _ (hA _ (by simp)) p, getD_set _ _ _ _ (by omega)]
      by_cases hp : p = t.toNat
      · have e : (p : Int) = t := by omega
        rw [if_pos hp, if_neg (by omega), if_pos ⟨by simp [e], by rw [hp]; exact hn⟩]
      · have e : ¬ (p : Int) = t := by omega
        rw [if_neg hp]
        simp only [List.mem_cons, e, false_or]
    · rw [if_neg hn, markL_get v hv A _ (hA _ rfl) p]
      by_cases hp : (p : Int) = t
      · have e : p = t.toNat := by omega
        rw [if_neg (by rw [e]; exact fun g => hn g.2), if_neg (by rw [e]; exact fun g => hn g.2)]
      · simp only [List.mem_cons, hp, false_or]
def aroundF (w h : Int) (s : ByteArray) (c : Int) : List Int := if freeB s c = true then aroundL w h s c else []
theorem aroundF_rng {w h : Int} {s : ByteArray} (hg : gridB w h s = true) {c t : Int} (ht : t ∈ aroundF w h s c) : 0 ≤ t ∧ t < (s.size : Int) := by
  unfold aroundF at ht
  split at ht
  · exact freeB_rng (aroundL_mem (gridB_iff hg).1.1 ht).1
  · simp at ht
theorem aroundF_len (w h : Int) (s : ByteArray) (c : Int) : (aroundF w h s c).length ≤ 4 := by
  unfold aroundF
  split
  · exact aroundL_len w h s c
  · simp
theorem specAroundF_ev (w h : Int) (s : ByteArray) (hg : gridB w h s = true) (c : Int) (k : Nat) (hk : s.size + 20 ≤ k) : spec_Around.f k w h s c = some (aroundF w h s c) := by
  unfold aroundF
  cases hf : freeB s c
  · have h4 := gridB_size hg
    unfold spec_Around.f
    rw [specFree_ev w h s c (by omega) k (by omega), hg, hf]
    simp
  · rw [if_pos rfl]; exact specAround_ev w h s hg c hf k hk
theorem rdD (xs : List Int) (i : Int) : rd xs i = xs.getD i.toNat 0 := rfl
theorem l4_ev (w h : Int) (s : ByteArray) (A : List Int) (d x9 : Int) (hd : 0 ≤ d ∧ d ≤ 100) (hA : ∀ t ∈ A, 0 ≤ t ∧ t < (s.size : Int)) (hl : A.length ≤ 4) : ∀ (e i m : Nat) (out : List Int), i + e = A.length → out.length = s.size →
    spec_StepsFrom.l4 (m + e + 1) out d x9 A (i : Int) w h s = spec_StepsFrom.l3 m (markL (d + 1) out (A.drop i)) d (wrap64 (x9 + 1)) w h s := by
  intro e
  induction e with
  | zero =>
    intro i m out h' ho
    rw [spec_StepsFrom.l4, if_neg (by omega), List.drop_eq_nil_of_le (by omega)]
    rfl
  | succ e ih =>
    intro i m out h' ho
    have hi : i < A.length := by omega
    have ht := hA _ (List.getElem_mem hi)
    rw [show m + (e + 1) + 1 = (m + e + 1) + 1 from rfl, spec_StepsFrom.l4, if_pos (by omega), if_pos (by omega), rdN A i hi, if_pos ht.1, if_pos (by omega), List.drop_eq_getElem_cons hi, markL, rdD, w64 (x := d + 1) (by omega) (by omega), wnat (by omega)]
    by_cases hn : out.getD (A[i]).toNat 0 < 0
    · rw [if_pos hn, if_pos hn]
      exact ih (i + 1) m _ (by omega) (by simpa using ho)
    · rw [if_neg hn, if_neg hn]
      exact ih (i + 1) m _ (by omega) ho
theorem skip_ev (w h : Int) (s : ByteArray) (d : Int) (out : List Int) (ho : out.length = s.size) (hb : s.size ≤ 64) : ∀ (n i m : Nat), i + n ≤ s.size → (∀ p, i ≤ p → p < i + n → out.getD p 0 ≠ d) →
    spec_StepsFrom.l3 (m + n) out d (i : Int) w h s = spec_StepsFrom.l3 m out d ((i + n : Nat) : Int) w h s := by
  intro n
  induction n with
  | zero => intro i m _ _; rfl
  | succ n ih =>
    intro i m h' hp
    have h1 := hp i (Nat.le_refl _) (by omega)
    rw [show m + (n + 1) = (m + n) + 1 from rfl, spec_StepsFrom.l3, if_pos (by omega), if_pos (by omega), if_pos (by omega), rdD, if_neg (by simpa using h1), wnat (by omega), ih (i + 1) m (by omega) (fun p h2 h3 => hp p (by omega) (by omega))]
    rw [show i + 1 + n = i + (n + 1) by omega]
/-- A later round: what is one step off stays so. -/
theorem l3_late (w h : Int) (s : ByteArray) (hg : gridB w h s = true) (d : Nat) (hd : 1 ≤ d ∧ d ≤ 64) : ∀ (e i k : Nat) (out : List Int), i + e = s.size → out.length = s.size → e * 6 + 100 ≤ k →
    ∃ m out', spec_StepsFrom.l3 k out (d : Int) (i : Int) w h s = spec_StepsFrom.l2 m out' ((d + 1 : Nat) : Int) w h s ∧ k ≤ m + e * 6 + 1 ∧ out'.length = s.size ∧ ∀ p, (out'.getD p 0 = 1 ↔ out.getD p 0 = 1) := by
  have h4 := gridB_size hg
  intro e
  induction e with
  | zero =>
    intro i k out h' ho hk
    obtain ⟨k, rfl⟩ := ksucc (show 0 < k by omega)
    exact ⟨k, out, by rw [spec_StepsFrom.l3, if_neg (by omega), wnat (by omega)], by omega, ho, fun p => Iff.rfl⟩
  | succ e ih =>
    intro i k out h' ho hk
    obtain ⟨k, rfl⟩ := ksucc (show 0 < k by omega)
    rw [spec_StepsFrom.l3, if_pos (by omega), if_pos (by omega), if_pos (by omega)]
    by_cases hx : rd out (i : Int) = (d : Int)
    · rw [if_pos hx, specAroundF_ev w h s hg _ k (by omega), Option.bind_some]
      have hl := aroundF_len w h s (i : Int)
      obtain ⟨k', hk'⟩ : ∃ k', k = k' + (aroundF w h s (i : Int)).length + 1 := ⟨k - (aroundF w h s (i : Int)).length - 1, by omega⟩
      have h5 := l4_ev w h s (aroundF w h s (i : Int)) (d : Int) (i : Int) (by omega) (fun t ht => aroundF_rng hg ht) hl (aroundF w h s (i : Int)).length 0 k' out (by omega) ho
      rw [← hk', show ((0 : Nat) : Int) = 0 from rfl, List.drop_zero, wnat (by omega)] at h5
      obtain ⟨m, out', e1, e2, e3, e4⟩ := ih (i + 1) k' (markL ((d : Int) + 1) out (aroundF w h s (i : Int))) (by omega) (by rw [markL_length]; exact ho) (by omega)
      refine ⟨m, out', h5.trans e1, by omega, e3, fun p => (e4 p).trans ?_⟩
      rw [markL_get _ (by omega) _ _ (fun t ht => by rw [ho]; exact aroundF_rng hg ht) p]
      split
      · rename_i hh; constructor <;> intro hh2 <;> omega
      · exact Iff.rfl
    · rw [if_neg hx, wnat (by omega)]
      obtain ⟨m, out', e1, e2, e3, e4⟩ := ih (i + 1) k out (by omega) ho (by omega)
      exact ⟨m, out', e1, by omega, e3, e4⟩
set_option maxRecDepth 10000 in
theorem l2_late (w h : Int) (s : ByteArray) (hg : gridB w h s = true) : ∀ (D d k : Nat) (out : List Int), d + D = s.size → 1 ≤ d → out.length = s.size → D * 400 + 600 ≤ k →
    ∃ out', spec_StepsFrom.l2 k out (d : Int) w h s = some out' ∧ out'.length = s.size ∧ ∀ p, (out'.getD p 0 = 1 ↔ out.getD p 0 = 1) := by
  have h4 := gridB_size hg
  intro D
  induction D with
  | zero =>
    intro d k out h' _ ho hk
    obtain ⟨k, rfl⟩ := ksucc (show 0 < k by omega)
    exact ⟨out, by rw [spec_StepsFrom.l2, if_neg (by omega)], ho, fun p => Iff.rfl⟩
  | succ D ih =>
    intro d k out h' h1 ho hk
    obtain ⟨k, rfl⟩ := ksucc (show 0 < k by omega)
    obtain ⟨m, out', e1, e2, e3, e4⟩ := l3_late w h s hg d (by omega) s.size 0 k out (by omega) ho (by omega)
    rw [show ((0 : Nat) : Int) = 0 from rfl] at e1
    obtain ⟨out2, f1, f2, f3⟩ := ih (d + 1) m out' (by omega) (by omega) e3 (by omega)
    exact ⟨out2, by rw [spec_StepsFrom.l2, if_pos (by omega)]; exact e1.trans f1, f2, fun p => (f3 p).trans (e4 p)⟩
def initL (c : Int) (n : Nat) : List Int := (List.range n).map fun (i : Nat) => if (i : Int) = c then 0 else -1
theorem initL_length (c : Int) (n : Nat) : (initL c n).length = n := by simp [initL]
theorem initL_get (c : Int) (n p : Nat) (hp : p < n) : (initL c n).getD p 0 = if (p : Int) = c then 0 else -1 := by simp [initL, List.getD, hp]
theorem initL_snoc (c : Int) (n : Nat) : initL c (n + 1) = initL c n ++ [if (n : Int) = c then 0 else -1] := by simp [initL, List.range_succ]
theorem l1_ev (w h : Int) (s : ByteArray) (c : Int) (hb : s.size ≤ 64) : ∀ (e i m : Nat), i + e = s.size → 3 ≤ m →
    spec_StepsFrom.l1 (m + e + 1) [c] (initL c i) (i : Int) w h s = spec_StepsFrom.l2 m (initL c s.size) 0 w h s := by
  intro e
  induction e with
  | zero =>
    intro i m h' hm
    rw [spec_StepsFrom.l1, if_neg (by omega), show i = s.size by omega]
  | succ e ih =>
    intro i m h' hm
    have hil := initL_length c i
    rw [show m + (e + 1) + 1 = (m + e + 1) + 1 from rfl, spec_StepsFrom.l1, if_pos (by omega), specHas_ev [c] _ (by simp) _ (by simp; omega), Option.bind_some, wnat (by omega)]
    have hs := initL_snoc c i
    by_cases hc : (i : Int) = c
    · rw [if_pos hc] at hs
      rw [if_pos (by simp [hc]), if_pos (by omega), ← hs]
      exact ih (i + 1) m (by omega) hm
    · rw [if_neg hc] at hs
      rw [if_neg (by simp [hc]), if_pos (by omega), ← hs]
      exact ih (i + 1) m (by omega) hm
theorem stepsFrom_ev (w h : Int) (s : ByteArray) (hg : gridB w h s = true) (c : Int) (hc : freeB s c = true) (k : Nat) (hk : 40000 ≤ k) :
    ∃ out, spec_StepsFrom.f k w h s [c] = some out ∧ out.length = s.size ∧ ∀ p, p < s.size → (out.getD p 0 = 1 ↔ (p : Int) ∈ aroundL w h s c) := by
  have h4 := gridB_size hg
  have hr := freeB_rng hc
  obtain ⟨cn, rfl⟩ : ∃ cn : Nat, c = cn := ⟨c.toNat, by omega⟩
  have hcn : cn < s.size := by omega
  -- the first round
  have hA : ∀ t ∈ aroundL w h s (cn : Int), 0 ≤ t ∧ t < (s.size : Int) := fun t ht => freeB_rng (aroundL_mem (gridB_iff hg).1.1 ht).1
  obtain ⟨out1, ho1⟩ : ∃ o, o = markL (0 + 1) (initL (cn : Int) s.size) (aroundL w h s (cn : Int)) := ⟨_, rfl⟩
  have hl1 : out1.length = s.size := by rw [ho1, markL_length, initL_length]
  have hg1 : ∀ p, p < s.size → out1.getD p 0 = if (p : Int) ∈ aroundL w h s (cn : Int) then 1 else if (p : Int) = cn then 0 else -1 := by
    intro p hp
    rw [ho1, markL_get _ (by omega) _ _ (fun t ht => by rw [initL_length]; exact hA t ht) p, initL_get _ _ _ hp]
    by_cases hm : (p : Int) ∈ aroundL w h s (cn : Int)
    · have hne := (aroundL_mem (gridB_iff hg).1.1 hm).2
      rw [if_pos hm, if_pos ⟨hm, by rw [if_neg hne]; omega⟩]; rfl
    · rw [if_neg hm, if_neg (fun g => hm g.1)]
  have first : ∀ m, 200 ≤ m → spec_StepsFrom.l2 (m + (s.size - cn - 1) + (aroundL w h s (cn : Int)).length + 1 + 1 + cn + 1 + 1) (initL (cn : Int) s.size) 0 w h s = spec_StepsFrom.l2 m out1 ((0 + 1 : Nat) : Int) w h s := by
    intro m hm
    rw [spec_StepsFrom.l2, if_pos (by omega)]
    have a1 := skip_ev w h s 0 (initL (cn : Int) s.size) (initL_length _ _) (by omega) cn 0 (m + (s.size - cn - 1) + (aroundL w h s (cn : Int)).length + 1 + 1 + 1) (by omega) (fun p _ h2 => by rw [initL_get _ _ _ (by omega), if_neg (by omega)]; omega)
    rw [show m + (s.size - cn - 1) + (aroundL w h s (cn : Int)).length + 1 + 1 + cn + 1 = m + (s.size - cn - 1) + (aroundL w h s (cn : Int)).length + 1 + 1 + 1 + cn by omega]
    rw [show ((0 : Nat) : Int) = 0 from rfl, Nat.zero_add] at a1
    rw [a1, spec_StepsFrom.l3, if_pos (by omega), if_pos (by omega), if_pos (by rw [initL_length]; omega), rdD, show ((cn : Nat) : Int).toNat = cn from by simp, initL_get _ _ _ hcn, if_pos rfl, if_pos rfl, specAroundF_ev w h s hg _ _ (by omega), Option.bind_some]
    rw [show aroundF w h s (cn : Int) = aroundL w h s (cn : Int) by unfold aroundF; rw [if_pos hc]]
    have a2 := l4_ev w h s (aroundL w h s (cn : Int)) 0 (cn : Int) (by omega) hA (aroundL_len _ _ _ _) (aroundL w h s (cn : Int)).length 0 (m + (s.size - cn - 1) + 1) (initL (cn : Int) s.size) (by omega) (initL_length _ _)
    rw [show ((0 : Nat) : Int) = 0 from rfl, List.drop_zero, ← ho1, wnat (by omega)] at a2
    rw [show m + (s.size - cn - 1) + (aroundL w h s (cn : Int)).length + 1 + 1 = m + (s.size - cn - 1) + 1 + (aroundL w h s (cn : Int)).length + 1 by omega, a2]
    have a3 := skip_ev w h s 0 out1 hl1 (by omega) (s.size - cn - 1) (cn + 1) (m + 1) (by omega) (fun p h1 h2 => by
      rw [hg1 p (by omega)]
      split
      · omega
      · rw [if_neg (by omega)]; omega)
    rw [show m + (s.size - cn - 1) + 1 = m + 1 + (s.size - cn - 1) by omega, a3, spec_StepsFrom.l3, if_neg (by omega)]
    rw [show wrap64 ((0 : Int) + 1) = ((0 + 1 : Nat) : Int) from wnat (i := 0) (by omega)]
  obtain ⟨m, hm⟩ : ∃ m, k = (m + (s.size - cn - 1) + (aroundL w h s (cn : Int)).length + 1 + 1 + cn + 1 + 1) + s.size + 1 + 1 + 1 := ⟨k - ((s.size - cn - 1) + (aroundL w h s (cn : Int)).length + 1 + 1 + cn + 1 + 1) - s.size - 1 - 1 - 1, by have := aroundL_len w h s (cn : Int); omega⟩
  have hA4 := aroundL_len w h s (cn : Int)
  obtain ⟨out, f1, f2, f3⟩ := l2_late w h s hg (s.size - 1) 1 m out1 (by omega) (by omega) hl1 (by omega)
  refine ⟨out, ?_, f2, fun p hp => (f3 p).trans ?_⟩
  · unfold spec_StepsFrom.f
    simp only [Option.bind_some]
    rw [specGrid_ev w h s (by omega) k (by omega), hg]
    simp only [Option.bind_some, if_true]
    rw [hm, spec_StepsFrom.l0, if_pos (by simp), if_pos (by omega), show rd [(cn : Int)] 0 = (cn : Int) from rfl, specFree_ev w h s _ (by omega) _ (by omega), hg, hc]
    simp only [Option.bind_some, Bool.and_self, if_true]
    rw [show wrap64 ((0 : Int) + 1) = 1 by unfold wrap64; omega, spec_StepsFrom.l0, if_neg (by simp)]
    have b1 := l1_ev w h s (cn : Int) (by omega) s.size 0 (m + (s.size - cn - 1) + (aroundL w h s (cn : Int)).length + 1 + 1 + cn + 1 + 1) (by omega) (by omega)
    rw [show initL (cn : Int) 0 = [] from rfl, show ((0 : Nat) : Int) = 0 from rfl] at b1
    exact b1.trans ((first m (by omega)).trans f1)
  · rw [hg1 p hp]
    by_cases hm : (p : Int) ∈ aroundL w h s (cn : Int)
    · rw [if_pos hm]; simp [hm]
    · rw [if_neg hm]
      constructor
      · intro h1
        split at h1 <;> omega
      · intro h1; exact absurd h1 hm
theorem stepsTo_ev (w h : Int) (s : ByteArray) (hg : gridB w h s = true) (c t : Int) (hc : freeB s c = true) : ∃ z, (∀ k, 40000 ≤ k → spec_StepsTo.f k w h s c t = some z) ∧ (z = 1 ↔ t ∈ aroundL w h s c) := by
  have h4 := gridB_size hg
  suffices H : ∃ z, spec_StepsTo.f 40000 w h s c t = some z ∧ (z = 1 ↔ t ∈ aroundL w h s c) by
    obtain ⟨z, h1, h2⟩ := H
    exact ⟨z, fun k hk => at_rounds (g := fun k => spec_StepsTo.f k w h s c t) (fun k => spec_StepsTo.mono _ _ _ _ _ k) hk h1, h2⟩
  obtain ⟨K, hK⟩ : ∃ K, K = 40000 := ⟨_, rfl⟩
  rw [← hK]
  unfold spec_StepsTo.f
  rw [specFree_ev w h s c (by omega) K (by omega), specFree_ev w h s t (by omega) K (by omega), hg, hc]
  simp only [Option.bind_some, Bool.true_and, if_true]
  cases ht : freeB s t
  · refine ⟨-1, by simp, ?_⟩
    constructor
    · intro h1; omega
    · intro h1
      have := (aroundL_mem (gridB_iff hg).1.1 h1).1
      rw [ht] at this
      simp at this
  · have hr := freeB_rng ht
    obtain ⟨out, e1, e2, e3⟩ := stepsFrom_ev w h s hg c hc K (by omega)
    refine ⟨rd out t, ?_, ?_⟩
    · rw [if_pos rfl, e1]
      simp only [Option.bind_some]
      rw [if_pos hr.1, if_pos (by omega)]
    · rw [rdD]
      have := e3 t.toNat (by omega)
      rw [show ((t.toNat : Nat) : Int) = t by omega] at this
      exact this
theorem beside_ev (w h : Int) (s : ByteArray) (hg : gridB w h s = true) (c t : Int) (hc : freeB s c = true) (k : Nat) (hk : 100 ≤ k) : impl_Beside.f k w h s c t = some ((aroundL w h s c).contains t) := by
  have h4 := gridB_size hg
  have hl := aroundL_len w h s c
  unfold impl_Beside.f
  rw [implAround_ev w h s hg c hc k (by omega)]
  simp only [Option.bind_some]
  rw [implHas_ev _ t (by omega) k (by omega)]
  rfl
theorem implFreeAt_ev (w h : Int) (s : ByteArray) (c : Int) (hb : s.size ≤ 1048576) (k : Nat) (hk : s.size + 2 ≤ k) : impl_FreeAt.f k w h s c = some (gridB w h s && freeB s c) := by
  unfold impl_FreeAt.f
  rw [implGrid_ev w h s hb k hk, implFree_ev]
  cases gridB w h s <;> simp

abbrev RB := S84
/-- What is asked of a robot alone. -/
def aloneB (w h : Int) (s : ByteArray) (r : RB) : Bool := (gridB w h s && freeB s r.f1) && (decide (r.f2 = -1) || (aroundL w h s r.f1).contains r.f2)
/-- What is asked of two. -/
def pairB (q r : RB) : Bool := !(decide (q.f0 = r.f0) || decide (q.f1 = r.f1) || decide (q.f1 = r.f2) || decide (q.f2 = r.f1) || (decide (q.f2 ≥ 0) && decide (q.f2 = r.f2)))
def yardB (w h : Int) (s : ByteArray) : List RB → List RB → Bool
  | _, [] => true
  | seen, r :: t => (aloneB w h s r && seen.all fun q => pairB q r) && yardB w h s (seen ++ [r]) t
theorem rdRB (xs : List RB) (i : Nat) (h : i < xs.length) : rd_T84 xs (i : Int) = xs[i] := by simp [rd_T84, List.getD, h]
section
variable (w h : Int) (s : ByteArray) (p b c z : Int) (xs : List RB) (e f : Int) (ws : List Int) (g : Int) (act : Bool) (l m : Int) (ways : List S143) (js : List S141) (gs : List Int)
theorem specPair_l (hx : xs.length ≤ 1000) (i : Nat) (hi : i < xs.length) (k : Nat) : ∀ (d j : Nat), j + d = i →
    spec_SafeYard.l1 (k + d + 1) (i : Int) (j : Int) w h s p b c z xs e f ws g act l m ways js gs w h s (xs[i]'hi).f0 (xs[i]'hi).f1 (xs[i]'hi).f2 (xs[i]'hi).f3 = if (((xs.take i).drop j).all fun q => pairB q (xs[i]'hi)) = true then spec_SafeYard.l0 k ((i + 1 : Nat) : Int) w h s p b c z xs e f ws g act l m ways js gs w h s else some false := by
  intro d
  induction d with
  | zero =>
    intro j hj
    rw [spec_SafeYard.l1, if_neg (by omega), List.drop_eq_nil_of_le (by simp; omega), wnat (by omega), if_pos (by rfl)]
  | succ d ih =>
    intro j hj
    have hjl : j < xs.length := by omega
    have hd : (xs.take i).drop j = xs[j] :: (xs.take i).drop (j + 1) := by
      rw [List.drop_eq_getElem_cons (by simp; omega), List.getElem_take]
    rw [show k + (d + 1) + 1 = (k + d + 1) + 1 from rfl, spec_SafeYard.l1, if_pos (by omega), if_pos (by omega), if_pos (by omega), rdRB xs j hjl, hd, List.all_cons, wnat (by omega), ih (j + 1) (by omega)]
    obtain ⟨q, hq⟩ : ∃ q, q = xs[j] := ⟨_, rfl⟩
    obtain ⟨r, hr⟩ : ∃ r, r = xs[i] := ⟨_, rfl⟩
    rw [← hq, ← hr]
    by_cases c0 : q.f0 = r.f0
    · rw [if_pos c0, if_neg (by simp [pairB, c0])]
    rw [if_neg c0]
    by_cases c1 : q.f1 = r.f1
    · rw [if_pos c1, if_neg (by simp [pairB, c1])]
    rw [if_neg c1]
    by_cases c2 : q.f1 = r.f2
    · rw [if_pos c2, if_neg (by simp [pairB, c2])]
    rw [if_neg c2]
    by_cases c3 : q.f2 = r.f1
    · rw [if_pos c3, if_neg (by simp [pairB, c3])]
    rw [if_neg c3]
    by_cases c4 : q.f2 ≥ 0
    · rw [if_pos c4]
      by_cases c5 : q.f2 = r.f2
      · rw [if_pos c5, if_neg (by simp [pairB, c4, c5]; intros; omega)]
      · rw [if_neg c5, show pairB q r = true by simp [pairB, c0, c1, c2, c3, c5], Bool.true_and]
    · rw [if_neg c4, show pairB q r = true by simp [pairB, c0, c1, c2, c3, c4], Bool.true_and]
set_option maxRecDepth 10000 in
theorem specYard_l (hb : s.size ≤ 1048576) (hx : xs.length ≤ 1000) : ∀ (d i k : Nat), i + d = xs.length → d * 1010 + 2000000 ≤ k →
    spec_SafeYard.l0 k (i : Int) w h s p b c z xs e f ws g act l m ways js gs w h s = some (yardB w h s (xs.take i) (xs.drop i)) := by
  intro d
  induction d with
  | zero =>
    intro i k hi hk
    obtain ⟨k, rfl⟩ := ksucc (show 0 < k by omega)
    rw [spec_SafeYard.l0, if_neg (by omega), List.drop_eq_nil_of_le (by omega)]
    rfl
  | succ d ih =>
    intro i k hi hk
    have hil : i < xs.length := by omega
    obtain ⟨k, rfl⟩ : ∃ k', k = k' + i + 1 + 1 + 1 := ⟨k - i - 3, by omega⟩
    have hI := ih (i + 1) k (by omega) (by omega)
    rw [spec_SafeYard.l0, if_pos (by omega), if_pos (by omega), rdRB xs i hil, specFree_ev w h s _ hb _ (by omega), List.drop_eq_getElem_cons hil, yardB]
    simp only [Option.bind_some]
    have hp := specPair_l w h s p b c z xs e f ws g act l m ways js gs hx i hil k i 0 (by omega)
    rw [show ((0 : Nat) : Int) = 0 from rfl, List.drop_zero, hI] at hp
    have ht : xs.take i ++ [xs[i]] = xs.take (i + 1) := by rw [List.take_succ_eq_append_getElem hil]
    rw [ht]
    cases hg : gridB w h s
    · rw [Bool.false_and, if_neg (by simp), spec_SafeYard.j1, if_pos rfl, show aloneB w h s xs[i] = false by simp [aloneB, hg]]
      rfl
    rw [Bool.true_and]
    cases hf : freeB s xs[i].f1
    · rw [if_neg (by simp), spec_SafeYard.j1, if_pos rfl, show aloneB w h s xs[i] = false by simp [aloneB, hf]]
      rfl
    rw [if_pos rfl]
    have tail : ∀ bb : Bool, (aloneB w h s xs[i] = !bb) → spec_SafeYard.j1 (k + i + 1 + 1) (i : Int) bb w h s p b c z xs e f ws g act l m ways js gs w h s xs[i].f0 xs[i].f1 xs[i].f2 xs[i].f3 = some (((aloneB w h s xs[i]) && ((xs.take i).all fun q => pairB q xs[i])) && yardB w h s (xs.take (i + 1)) (xs.drop (i + 1))) := by
      intro bb hbb
      rw [spec_SafeYard.j1, hbb]
      cases bb
      · rw [if_neg (by simp), hp]
        cases ((xs.take i).all fun q => pairB q xs[i])
        · rfl
        · simp
      · rfl
    by_cases h2 : xs[i].f2 = -1
    · rw [if_pos h2]
      exact tail false (by simp [aloneB, hg, hf, h2])
    · rw [if_neg h2]
      obtain ⟨y, hy1, hy2⟩ := stepsTo_ev w h s hg xs[i].f1 xs[i].f2 hf
      rw [hy1 _ (by omega), Option.bind_some]
      refine tail (y != 1) ?_
      unfold aloneB
      rw [hg, hf, decide_eq_false h2, Bool.false_or]
      by_cases hm : xs[i].f2 ∈ aroundL w h s xs[i].f1
      · rw [hy2.2 hm]; simpa using hm
      · have : y ≠ 1 := fun e => hm (hy2.1 e)
        simp [hm, this]
theorem specYard_ev (hb : s.size ≤ 1048576) (k : Nat) (hk : 4000000 ≤ k) :
    spec_SafeYard.f k w h s p b c z xs e f ws g act l m ways js gs = some (decide (xs.length ≤ 1000) && yardB w h s [] xs) := by
  unfold spec_SafeYard.f
  by_cases hl : xs.length ≤ 1000
  · rw [if_neg (by omega), decide_eq_true hl, Bool.true_and]
    exact specYard_l w h s p b c z xs e f ws g act l m ways js gs hb hl xs.length 0 k (by omega) (by omega)
  · rw [if_pos (by omega), decide_eq_false hl]; rfl
end
def goB (w h : Int) (s : ByteArray) : List RB → List Int → Bool
  | [], _ => true
  | r :: t, I => if I.contains r.f0 = true then false else aloneB w h s r && goB w h s t (r.f0 :: I)
theorem go_ev (w h : Int) (s : ByteArray) (hb : s.size ≤ 1048576) (k : Nat) (hk : 4000000 ≤ k) : ∀ (l : List RB) (I : List Int), impl_SafeYard.go k w h s l I = some (goB w h s l I) := by
  intro l
  induction l with
  | nil => intro I; rfl
  | cons r t ih =>
    intro I
    rw [impl_SafeYard.go, goB]
    by_cases hc : I.contains r.f0 = true
    · rw [if_pos hc, if_pos hc]
    rw [if_neg hc, if_neg hc, implFreeAt_ev w h s _ hb k (by omega), Option.bind_some]
    cases hg : gridB w h s
    · rw [Bool.false_and, if_neg (by simp), show aloneB w h s r = false by simp [aloneB, hg]]; rfl
    rw [Bool.true_and]
    cases hf : freeB s r.f1
    · rw [if_neg (by simp), show aloneB w h s r = false by simp [aloneB, hf]]; rfl
    rw [if_pos rfl]
    by_cases h2 : r.f2 = -1
    · rw [if_pos h2, ih, show aloneB w h s r = true by simp [aloneB, hg, hf, h2]]; rfl
    · rw [if_neg h2, beside_ev w h s hg r.f1 r.f2 hf k (by omega), Option.bind_some, show aloneB w h s r = (aroundL w h s r.f1).contains r.f2 by unfold aloneB; rw [hg, hf, decide_eq_false h2]; rfl, ih]
      cases (aroundL w h s r.f1).contains r.f2
      · rfl
      · simp
theorem alone_rng {w h : Int} {s : ByteArray} {r : RB} (ha : aloneB w h s r = true) : 0 ≤ r.f1 ∧ (r.f2 = -1 ∨ (0 ≤ r.f2 ∧ r.f2 ≠ r.f1)) := by
  unfold aloneB at ha
  simp only [Bool.and_eq_true, Bool.or_eq_true, decide_eq_true_eq, List.contains_iff_mem] at ha
  obtain ⟨⟨hg, hf⟩, h2⟩ := ha
  refine ⟨(freeB_rng hf).1, h2.imp id (fun hm => ?_)⟩
  have := aroundL_mem (gridB_iff hg).1.1 hm
  exact ⟨(freeB_rng this.1).1, this.2⟩
theorem same_l (w h : Int) (s : ByteArray) : ∀ (l seen : List RB) (S I : List Int), (∀ q ∈ seen, 0 ≤ q.f1) → (∀ x : Int, x ∈ S ↔ ∃ q ∈ seen, q.f1 = x ∨ (q.f2 ≥ 0 ∧ q.f2 = x)) → (∀ x : Int, x ∈ I ↔ ∃ q ∈ seen, q.f0 = x) →
    (impl_areApart.go l S && goB w h s l I) = yardB w h s seen l := by
  intro l
  induction l with
  | nil => intro seen S I _ _ _; rfl
  | cons r t ih =>
    intro seen S I hs hS hI
    rw [goB, yardB]
    cases ha : aloneB w h s r
    · rw [Bool.false_and, Bool.false_and, ite_self, Bool.and_false]
      rfl
    obtain ⟨r1, r2⟩ := alone_rng ha
    rw [Bool.true_and, Bool.true_and]
    have hs' : ∀ q ∈ seen ++ [r], 0 ≤ q.f1 := by
      intro q hq
      rcases List.mem_append.1 hq with hq | hq
      · exact hs q hq
      · rw [List.mem_singleton.1 hq]; exact r1
    have hI' : ∀ x : Int, x ∈ r.f0 :: I ↔ ∃ q ∈ seen ++ [r], q.f0 = x := by
      intro x
      simp only [List.mem_cons, List.mem_append, List.mem_nil_iff, or_false, hI]
      constructor
      · rintro (rfl | ⟨q, hq, e⟩)
        · exact ⟨r, .inr rfl, rfl⟩
        · exact ⟨q, .inl hq, e⟩
      · rintro ⟨q, hq | rfl, e⟩
        · exact .inr ⟨q, hq, e⟩
        · exact .inl e.symm
    have bad : ∀ q ∈ seen, pairB q r = false → ((seen.all fun q => pairB q r) && yardB w h s (seen ++ [r]) t) = false := by
      intro q hq hp
      have : (seen.all fun q => pairB q r) = false := by
        rw [List.all_eq_false]
        exact ⟨q, hq, by rw [hp]; simp⟩
      rw [this]; rfl
    by_cases c0 : r.f0 ∈ I
    · rw [if_pos (by simpa using c0), Bool.and_false]
      obtain ⟨q, hq, e⟩ := (hI _).1 c0
      exact (bad q hq (by simp [pairB, e])).symm
    rw [if_neg (by simpa using c0), impl_areApart.go]
    by_cases c1 : r.f1 ∈ S
    · rw [if_pos (by simpa using c1), Bool.false_and]
      obtain ⟨q, hq, e⟩ := (hS _).1 c1
      refine (bad q hq ?_).symm
      rcases e with e | ⟨_, e⟩
      · simp [pairB, e]
      · simp [pairB, e]
    rw [if_neg (by simpa using c1)]
    have good : (r.f2 = -1 ∨ r.f2 ∉ S) → (seen.all fun q => pairB q r) = true := by
      intro h2
      rw [List.all_eq_true]
      intro q hq
      have q1 := hs q hq
      have n0 : q.f0 ≠ r.f0 := fun e => c0 ((hI _).2 ⟨q, hq, e⟩)
      have n1 : q.f1 ≠ r.f1 := fun e => c1 ((hS _).2 ⟨q, hq, .inl e⟩)
      have n3 : q.f2 ≠ r.f1 := fun e => c1 ((hS _).2 ⟨q, hq, .inr ⟨by omega, e⟩⟩)
      have n2 : q.f1 ≠ r.f2 := by
        rcases h2 with h2 | h2
        · omega
        · exact fun e => h2 ((hS _).2 ⟨q, hq, .inl e⟩)
      have n4 : ¬ (q.f2 ≥ 0 ∧ q.f2 = r.f2) := by
        rcases h2 with h2 | h2
        · omega
        · exact fun e => h2 ((hS _).2 ⟨q, hq, .inr e⟩)
      unfold pairB
      rw [decide_eq_false n0, decide_eq_false n1, decide_eq_false n2, decide_eq_false n3]
      by_cases h0 : q.f2 ≥ 0
      · rw [decide_eq_false (fun e => n4 ⟨h0, e⟩)]; simp
      · rw [decide_eq_false h0]; rfl
    rcases r2 with r2 | ⟨r2, r3⟩
    · rw [if_pos (by omega), good (.inl r2), Bool.true_and]
      refine ih (seen ++ [r]) (r.f1 :: S) (r.f0 :: I) hs' ?_ hI'
      intro x
      simp only [List.mem_cons, List.mem_append, List.mem_nil_iff, or_false, hS]
      constructor
      · rintro (rfl | ⟨q, hq, e⟩)
        · exact ⟨r, .inr rfl, .inl rfl⟩
        · exact ⟨q, .inl hq, e⟩
      · rintro ⟨q, hq | rfl, e⟩
        · exact .inr ⟨q, hq, e⟩
        · rcases e with e | e
          · exact .inl e.symm
          · omega
    · rw [if_neg (by omega), if_neg r3]
      by_cases c2 : r.f2 ∈ S
      · rw [if_pos (by simp [c2]), Bool.false_and]
        obtain ⟨q, hq, e⟩ := (hS _).1 c2
        refine (bad q hq ?_).symm
        rcases e with e | ⟨e0, e⟩
        · simp [pairB, e]
        · simp [pairB, e]; intros; omega
      · rw [if_neg (by simp [c2, r3]), good (.inr c2), Bool.true_and]
        refine ih (seen ++ [r]) (r.f2 :: r.f1 :: S) (r.f0 :: I) hs' ?_ hI'
        intro x
        simp only [List.mem_cons, List.mem_append, List.mem_nil_iff, or_false, hS]
        constructor
        · rintro (rfl | rfl | ⟨q, hq, e⟩)
          · exact ⟨r, .inr rfl, .inr ⟨r2, rfl⟩⟩
          · exact ⟨r, .inr rfl, .inl rfl⟩
          · exact ⟨q, .inl hq, e⟩
        · rintro ⟨q, hq | rfl, e⟩
          · exact .inr (.inr ⟨q, hq, e⟩)
          · rcases e with e | ⟨_, e⟩
            · exact .inr (.inl e.symm)
            · exact .inl e.symm
theorem implYard_ev (w h : Int) (s : ByteArray) (p b c z : Int) (xs : List RB) (e f : Int) (ws : List Int) (g : Int) (act : Bool) (l m : Int) (ways : List S143) (js : List S141) (gs : List Int) (hb : s.size ≤ 1048576)
    (hwf : ∀ x ∈ xs, (Lit.int .i64 x.f0).wf = true ∧ (Lit.int .i64 x.f1).wf = true ∧ (Lit.int .i64 x.f2).wf = true) (k : Nat) (hk : 4000000 ≤ k) :
    impl_SafeYard.f k w h s p b c z xs e f ws g act l m ways js gs = some (decide (xs.length ≤ 1000) && yardB w h s [] xs) := by
  unfold impl_SafeYard.f
  by_cases hl : xs.length ≤ 1000
  · have h1 : (xs.all fun x => (Lit.int .i64 x.f1).wf && (Lit.int .i64 x.f2).wf) = true := by
      rw [List.all_eq_true]; intro x hx; rw [(hwf x hx).2.1, (hwf x hx).2.2]; rfl
    have h0 : (xs.all fun x => (Lit.int .i64 x.f0).wf) = true := by
      rw [List.all_eq_true]; intro x hx; exact (hwf x hx).1
    have hs := same_l w h s xs [] [] [] (by simp) (by simp) (by simp)
    rw [if_neg (by omega), decide_eq_true hl, Bool.true_and, ← hs]
    unfold impl_areApart.f
    rw [if_pos (by omega), if_pos h1, Option.bind_some]
    cases impl_areApart.go xs []
    · rw [if_neg (by simp)]; rfl
    · rw [if_pos rfl, if_pos h0, go_ev w h s hb k hk, Bool.true_and]
  · rw [if_pos (by omega), decide_eq_false hl]; rfl
theorem wf_rng {v : Int} (h : -9223372036854775808 ≤ v ∧ v ≤ 9223372036854775807) : (Lit.int .i64 v).wf = true := by
  simp only [Lit.wf, Bool.and_eq_true, decide_eq_true_eq]
  have h1 : IntKind.min .i64 = -9223372036854775808 := by decide
  have h2 : IntKind.max .i64 = 9223372036854775807 := by decide
  rw [h1, h2]
  exact h
theorem FnExactSafeYard : OpFnExactSafeYard.Pure := by
  rintro ⟨⟨⟨w, h, s⟩, a, b, c, z⟩, rs, ⟨d, e, ws⟩, f, g, ⟨l, m, ways⟩, js, gs⟩ ⟨⟨⟨_, _, hs⟩, _⟩, ⟨hrs, hrq⟩, ⟨_, _, hws, _⟩, _, _, ⟨_, _, hwz, hww⟩, ⟨hjs, _⟩, hgs, _⟩
  simp only at hs hrs hws hwz hww hjs hgs hrq
  obtain ⟨K, hK1, hK⟩ : ∃ K, ways.length < K ∧ 9000001 < K := ⟨ways.length + 9000002, by omega, by omega⟩
  refine ⟨K, ?_⟩
  unfold laws_FnExactSafeYard.f
  obtain ⟨t, e1, e2⟩ := szYard_ev K w h s a b c z rs d e ws f g l m ways js gs hs hrs hws hwz (fun x hx => (hww x hx).1) hjs hgs (by omega)
  simp only [e1, Option.bind_some]
  by_cases ht : t < 0
  · rw [if_pos ht]
  obtain ⟨b0, b1, b2, b3, b4, b5, b6⟩ := e2 (by omega)
  have ty := toYard_ev K w h s a b c z rs d e ws f g l m ways js gs b1 b2 b3 b4 b5 b6 (by omega)
  have eqy := eqYard_ev K w h s a b c z (rs.map cvRobot) d e ws f g l m (ways.map cvWay) (js.map cvJob) gs (by simpa using b1) b2 (by simpa using b3) (by intro x hx; obtain ⟨y, hy, rfl⟩ := List.mem_map.1 hx; exact b4 y hy) (by simpa using b5) b6 (by omega)
  have wf : ∀ x ∈ rs.map cvRobot, (Lit.int .i64 x.f0).wf = true ∧ (Lit.int .i64 x.f1).wf = true ∧ (Lit.int .i64 x.f2).wf = true := by
    intro x hx
    obtain ⟨y, hy, rfl⟩ := List.mem_map.1 hx
    obtain ⟨q0, q1, q2, _⟩ := hrq y hy
    exact ⟨wf_rng q0, wf_rng q1, wf_rng q2⟩
  rw [if_neg ht, ty]
  simp only [Option.bind_some]
  rw [specYard_ev w h s a b c z (rs.map cvRobot) d e ws f g l m (ways.map cvWay) (js.map cvJob) gs b0 K (by omega), implYard_ev w h s a b c z (rs.map cvRobot) d e ws f g l m (ways.map cvWay) (js.map cvJob) gs b0 wf K (by omega)]
  simp only [Option.bind_some]
  simp only [eqy, Option.bind_some, bne_self_eq_false, Bool.false_eq_true, if_false, if_true]

end Go.Proofs.Ytfinjkjnoobbjaa.Pure
