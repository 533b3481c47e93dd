/- The law FnExactMapText over numbers and lists alone: it answers true for every input; no condition beside the bounds of the kinds. -/
import Derived.Test.YtomchkdbhcakoaaMFnExactMapTextx
import Derived.Test.YtomchkdbhcakoaaOpFnExactMapText
namespace Go.Proofs.Ytomchkdbhcakoaa.Pure
open Go.RowKit Go.Proofs.Ytomchkdbhcakoaa.MFnExactMapText Go.Proofs.YtomchkdbhcakoaaW.PrintWords Go.Proofs.YtomchkdbhcakoaaW.PrintLast Go.Proofs.Ytomchkdbhcakoaa
set_option linter.unusedVariables false
set_option linter.unusedSimpArgs false

theorem w64 {x : Int} (h1 : -9223372036854775808 ≤ x) (h2 : x ≤ 9223372036854775807) : wrap64 x = x := by unfold wrap64; omega
theorem wnat {i : Nat} (h : i < 4611686018427387904) : wrap64 ((i : Int) + 1) = ((i + 1 : Nat) : Int) := by unfold wrap64; omega
theorem ksucc {k d : Nat} (h : d < k) : ∃ m, k = m + 1 := ⟨k - 1, by omega⟩

theorem fill_step {α β : Type} (f : α → β) (z : β) (xs : List α) (i d : Nat) (h : i + (d + 1) = xs.length) (hi : i < xs.length) :
    ((xs.take i).map f ++ List.replicate (d + 1) z).set i (f xs[i]) = (xs.take (i + 1)).map f ++ List.replicate d z := by
  have hl : ((xs.take i).map f).length = i := by simp; omega
  rw [List.replicate_succ, List.set_append_right _ _ (by omega), hl, Nat.sub_self, List.set_cons_zero, List.take_succ_eq_append_getElem hi, List.map_append]
  simp

/-! Robots, made of what came in -/
def cvRobot (y : S117) : S89 := ⟨y.f0, y.f1, y.f2, y.f3⟩
theorem rdLRobot (xs : List S117) (i : Nat) (h : i < xs.length) : rd_T117 xs (i : Int) = xs[i] := by simp [rd_T117, List.getD, h]
theorem toRobotS_l (xs : List S117) (hb : xs.length ≤ 1048576) : ∀ (d i k : Nat), i + d = xs.length → d < k →
    laws_toRobotS.l0 k xs ((xs.take i).map cvRobot ++ List.replicate d z89) (i : Int) = some (xs.map cvRobot) := by
  intro d
  induction d with
  | zero =>
    intro i k h hk
    obtain ⟨k, rfl⟩ := ksucc hk
    simp only [laws_toRobotS.l0]
    rw [if_neg (by omega), List.take_of_length_le (by omega)]
    simp
  | succ d ih =>
    intro i k h hk
    obtain ⟨k, rfl⟩ := ksucc hk
    have hi : i < xs.length := by omega
    simp only [laws_toRobotS.l0, laws_toRobot.f, Option.bind_some]
    rw [if_pos (by omega), if_pos (by omega), if_pos (by simp; omega), rdLRobot xs i hi, wnat (by omega)]
    have e : (i : Int).toNat = i := by simp
    rw [e]
    exact (congrArg (fun z => laws_toRobotS.l0 k xs z ((i + 1 : Nat) : Int)) (fill_step cvRobot z89 xs i d h hi)).trans (ih (i + 1) k (by omega) (by omega))
theorem toRobotS_ev (xs : List S117) (hb : xs.length ≤ 1048576) (k : Nat) (hk : xs.length < k) : laws_toRobotS.f k xs = some (xs.map cvRobot) := by
  unfold laws_toRobotS.f
  rw [if_pos (by omega), if_pos (by omega)]
  have := toRobotS_l xs hb xs.length 0 k (by omega) hk
  simpa using this

/-! lists of numbers, made of what came in -/
theorem rdT (xs : List Int) (i : Nat) (h : i < xs.length) : rd xs (i : Int) = xs[i] := by simp [rd, List.getD, h]
theorem toIntS_l (xs : List Int) (hb : xs.length ≤ 1048576) : ∀ (d i k : Nat), i + d = xs.length → d < k →
    laws_toIntS.l0 k xs ((xs.take i).map id ++ List.replicate d 0) (i : Int) = some xs := by
  intro d
  induction d with
  | zero =>
    intro i k h hk
    obtain ⟨k, rfl⟩ := ksucc hk
    simp only [laws_toIntS.l0]
    rw [if_neg (by omega), List.take_of_length_le (by omega)]
    simp
  | succ d ih =>
    intro i k h hk
    obtain ⟨k, rfl⟩ := ksucc hk
    have hi : i < xs.length := by omega
    simp only [laws_toIntS.l0]
    rw [if_pos (by omega), if_pos (by omega), if_pos (by simp; omega), rdT xs i hi, wnat (by omega)]
    have e : (i : Int).toNat = i := by simp
    rw [e]
    exact (congrArg (fun z => laws_toIntS.l0 k xs z ((i + 1 : Nat) : Int)) (fill_step id 0 xs i d h hi)).trans (ih (i + 1) k (by omega) (by omega))
theorem toIntS_ev (xs : List Int) (hb : xs.length ≤ 1048576) (k : Nat) (hk : xs.length < k) : laws_toIntS.f k xs = some xs := by
  unfold laws_toIntS.f
  rw [if_pos (by omega), if_pos (by omega)]
  have := toIntS_l xs hb xs.length 0 k (by omega) hk
  simpa using this

/-! ways, made of what came in -/
def cvWay (y : S174) : S159 := ⟨y.f0⟩
theorem rdLWay (xs : List S174) (i : Nat) (h : i < xs.length) : rd_T174 xs (i : Int) = xs[i] := by simp [rd_T174, List.getD, h]
theorem toWayS_l (xs : List S174) (hb : xs.length ≤ 1048576) (hw : ∀ x ∈ xs, x.f0.length ≤ 1048576) : ∀ (d i k : Nat), i + d = xs.length → d + 1048577 < k →
    laws_toWayS.l0 k xs ((xs.take i).map cvWay ++ List.replicate d z159) (i : Int) = some (xs.map cvWay) := by
  intro d
  induction d with
  | zero =>
    intro i k h hk
    obtain ⟨k, rfl⟩ := ksucc (show 0 < k by omega)
    simp only [laws_toWayS.l0]
    rw [if_neg (by omega), List.take_of_length_le (by omega)]
    simp
  | succ d ih =>
    intro i k h hk
    obtain ⟨k, rfl⟩ := ksucc (show 0 < k by omega)
    have hi : i < xs.length := by omega
    have hwi := hw _ (List.getElem_mem hi)
    simp only [laws_toWayS.l0]
    rw [if_pos (by omega), if_pos (by omega), rdLWay xs i hi]
    unfold laws_toWay.f
    rw [toIntS_ev _ hwi k (by omega)]
    simp only [Option.bind_some]
    rw [if_pos (by simp; omega), wnat (by omega)]
    have e : (i : Int).toNat = i := by simp
    rw [e]
    exact (congrArg (fun z => laws_toWayS.l0 k xs z ((i + 1 : Nat) : Int)) (fill_step cvWay z159 xs i d h hi)).trans (ih (i + 1) k (by omega) (by omega))
theorem toWayS_ev (xs : List S174) (hb : xs.length ≤ 1048576) (hw : ∀ x ∈ xs, x.f0.length ≤ 1048576) (k : Nat) (hk : xs.length + 1048577 < k) : laws_toWayS.f k xs = some (xs.map cvWay) := by
  unfold laws_toWayS.f
  rw [if_pos (by omega), if_pos (by omega)]
  have := toWayS_l xs hb hw xs.length 0 k (by omega) hk
  simpa using this

/-! Jobs, made of what came in -/
def cvJob (y : S148) : S103 := ⟨y.f0, y.f1, y.f2⟩
theorem rdLJob (xs : List S148) (i : Nat) (h : i < xs.length) : rd_T148 xs (i : Int) = xs[i] := by simp [rd_T148, List.getD, h]
theorem toJobS_l (xs : List S148) (hb : xs.length ≤ 1048576) : ∀ (d i k : Nat), i + d = xs.length → d < k →
    laws_toJobS.l0 k xs ((xs.take i).map cvJob ++ List.replicate d z103) (i : Int) = some (xs.map cvJob) := by
  intro d
  induction d with
  | zero =>
    intro i k h hk
    obtain ⟨k, rfl⟩ := ksucc hk
    simp only [laws_toJobS.l0]
    rw [if_neg (by omega), List.take_of_length_le (by omega)]
    simp
  | succ d ih =>
    intro i k h hk
    obtain ⟨k, rfl⟩ := ksucc hk
    have hi : i < xs.length := by omega
    simp only [laws_toJobS.l0, laws_toJob.f, Option.bind_some]
    rw [if_pos (by omega), if_pos (by omega), if_pos (by simp; omega), rdLJob xs i hi, wnat (by omega)]
    have e : (i : Int).toNat = i := by simp
    rw [e]
    exact (congrArg (fun z => laws_toJobS.l0 k xs z ((i + 1 : Nat) : Int)) (fill_step cvJob z103 xs i d h hi)).trans (ih (i + 1) k (by omega) (by omega))
theorem toJobS_ev (xs : List S148) (hb : xs.length ≤ 1048576) (k : Nat) (hk : xs.length < k) : laws_toJobS.f k xs = some (xs.map cvJob) := by
  unfold laws_toJobS.f
  rw [if_pos (by omega), if_pos (by omega)]
  have := toJobS_l xs hb xs.length 0 k (by omega) hk
  simpa using this

/-! a yard, made of what came in -/
theorem toYard_ev (k : Nat) (w h : Int) (s : ByteArray) (a b c z : Int) (rs : List S117) (d e : Int) (ws : List Int) (f : Int) (g : Bool) (l m : Int) (ways : List S174) (js : List S148) (gs : List Int)
    (hrs : rs.length ≤ 1048576) (hws : ws.length ≤ 1048576) (hwz : ways.length ≤ 1048576) (hww : ∀ x ∈ ways, x.f0.length ≤ 1048576) (hjs : js.length ≤ 1048576) (hgs : gs.length ≤ 1048576) (hk : 2097153 < k) :
    laws_toYard.f k w h s a b c z rs d e ws f g l m ways js gs = some (w, h, s, a, b, c, z, rs.map cvRobot, d, e, ws, f, g, l, m, ways.map cvWay, js.map cvJob, gs) := by
  unfold laws_toYard.f laws_toSetup.f laws_toGrid.f laws_toWindow.f laws_toPlan.f
  rw [toRobotS_ev rs hrs k (by omega), toIntS_ev ws hws k (by omega), toWayS_ev ways hwz hww k (by omega), toJobS_ev js hjs k (by omega), toIntS_ev gs hgs k (by omega)]
  rfl

/-! the size of a yard -/
theorem rdZWay (xs : List S174) (i : Nat) (h : i < xs.length) : rd_T174 xs (i : Int) = xs[i] := by simp [rd_T174, List.getD, h]
theorem szWayS_l (xs : List S174) (hb : xs.length ≤ 1048576) (hw : ∀ x ∈ xs, x.f0.length * 8 ≤ 140737488351232) : ∀ (d i k : Nat) (b : Int), i + d = xs.length → d < k → 0 ≤ b → b ≤ 1048576 →
    ∃ t, laws_szWayS.l0 k xs b (i : Int) = some t ∧ t ≤ b ∧ (0 ≤ t → ∀ j (hj : j < xs.length), i ≤ j → xs[j].f0.length ≤ 1048576) := by
  intro d
  induction d with
  | zero =>
    intro i k b h hk h0 h1
    obtain ⟨k, rfl⟩ := ksucc hk
    rw [laws_szWayS.l0, if_neg (by omega)]
    exact ⟨b, rfl, by omega, fun _ j hj hij => by omega⟩
  | succ d ih =>
    intro i k b h hk h0 h1
    obtain ⟨k, rfl⟩ := ksucc hk
    have hi : i < xs.length := by omega
    have hwi := hw _ (List.getElem_mem hi)
    rw [laws_szWayS.l0, if_pos (by omega), if_pos (by omega), rdZWay xs i hi]
    unfold laws_szWay.f laws_szIntS.f
    rw [w64 (x := b - _) (by omega) (by omega), wnat (i := i) (by omega)]
    by_cases h2 : b - (xs[i].f0.length : Int) < 0
    · rw [if_pos h2]
      exact ⟨-1, rfl, by omega, fun h => by omega⟩
    · rw [if_neg h2]
      simp only [Option.bind_some]
      rw [if_neg h2]
      simp only [Option.bind_some]
      rw [if_neg h2]
      obtain ⟨t, e, h3, h4⟩ := ih (i + 1) k (b - (xs[i].f0.length : Int)) (by omega) (by omega) (by omega) (by omega)
      refine ⟨t, e, by omega, fun ht j hj hij => ?_⟩
      by_cases hij' : i = j
      · subst hij'; omega
      · exact h4 ht j hj (by omega)
theorem szWayS_ev (xs : List S174) (hz : xs.length * 24 ≤ 140737488351232) (hw : ∀ x ∈ xs, x.f0.length * 8 ≤ 140737488351232) (k : Nat) (hk : xs.length < k) (b : Int) (h0 : 0 ≤ b) (h1 : b ≤ 1048576) :
    ∃ t, laws_szWayS.f k xs b = some t ∧ t ≤ b ∧ (0 ≤ t → xs.length ≤ 1048576 ∧ ∀ x ∈ xs, x.f0.length ≤ 1048576) := by
  unfold laws_szWayS.f
  rw [w64 (by omega) (by omega)]
  by_cases h2 : b - (xs.length : Int) < 0
  · rw [if_pos h2]
    exact ⟨-1, rfl, by omega, fun h => by omega⟩
  · rw [if_neg h2]
    obtain ⟨t, e, h3, h4⟩ := szWayS_l xs (by omega) hw xs.length 0 k (b - xs.length) (by omega) hk (by omega) (by omega)
    refine ⟨t, e, by omega, fun ht => ⟨by omega, fun x hx => ?_⟩⟩
    obtain ⟨j, hj, rfl⟩ := List.mem_iff_getElem.1 hx
    exact h4 ht j hj (by omega)
theorem szYard_ev (k : Nat) (w h : Int) (s : ByteArray) (a b c z : Int) (rs : List S117) (d e : Int) (ws : List Int) (f : Int) (g : Bool) (l m : Int) (ways : List S174) (js : List S148) (gs : List Int)
    (hs : s.size ≤ 140737488351232) (hrs : rs.length * 32 ≤ 140737488351232) (hws : ws.length * 8 ≤ 140737488351232) (hwz : ways.length * 24 ≤ 140737488351232) (hww : ∀ x ∈ ways, x.f0.length * 8 ≤ 140737488351232) (hjs : js.length * 24 ≤ 140737488351232) (hgs : gs.length * 8 ≤ 140737488351232) (hk : ways.length < k) :
    ∃ t, laws_szYard.f k w h s a b c z rs d e ws f g l m ways js gs 1048576 = some t ∧
      (0 ≤ t → s.size ≤ 1048576 ∧ rs.length ≤ 1048576 ∧ ws.length ≤ 1048576 ∧ ways.length ≤ 1048576 ∧ (∀ x ∈ ways, x.f0.length ≤ 1048576) ∧ js.length ≤ 1048576 ∧ gs.length ≤ 1048576) := by
  unfold laws_szYard.f laws_szSetup.f laws_szGrid.f laws_szRobotS.f laws_szWindow.f laws_szPlan.f laws_szJobS.f laws_szIntS.f
  rw [w64 (x := 1048576 - _) (by omega) (by omega)]
  have bad : ∀ (o : Option Int) (P : Prop), o = some (-1) → ∃ t, o = some t ∧ (0 ≤ t → P) := fun o P e => ⟨-1, e, fun h => by omega⟩
  by_cases h1 : 1048576 - (s.size : Int) < 0
  · refine bad _ _ ?_; simp [h1]
  simp only [if_neg h1, Option.bind_some]
  rw [w64 (x := 1048576 - (s.size : Int) - _) (by omega) (by omega)]
  by_cases h2 : 1048576 - (s.size : Int) - (rs.length : Int) < 0
  · refine bad _ _ ?_; simp [h2]
  simp only [if_neg h2, Option.bind_some]
  rw [w64 (x := 1048576 - (s.size : Int) - (rs.length : Int) - _) (by omega) (by omega)]
  by_cases h3 : 1048576 - (s.size : Int) - (rs.length : Int) - (ws.length : Int) < 0
  · refine bad _ _ ?_; simp [h3]
  simp only [if_neg h3, Option.bind_some]
  obtain ⟨t, e1, e2, e3⟩ := szWayS_ev ways hwz hww k hk (1048576 - (s.size : Int) - (rs.length : Int) - (ws.length : Int)) (by omega) (by omega)
  rw [e1]
  simp only [Option.bind_some]
  by_cases h4 : t < 0
  · refine bad _ _ ?_; simp [h4]
  simp only [if_neg h4, Option.bind_some]
  obtain ⟨e4, e5⟩ := e3 (by omega)
  rw [w64 (x := t - _) (by omega) (by omega)]
  by_cases h5 : t - (js.length : Int) < 0
  · refine bad _ _ ?_; simp [h5]
  simp only [if_neg h5, Option.bind_some]
  rw [w64 (x := t - (js.length : Int) - _) (by omega) (by omega)]
  by_cases h6 : t - (js.length : Int) - (gs.length : Int) < 0
  · refine bad _ _ ?_; simp [h6]
  simp only [if_neg h6, Option.bind_some]
  exact ⟨_, rfl, fun _ => ⟨by omega, by omega, by omega, e4, e5, by omega, by omega⟩⟩

/-! frames -/
theorem l01In_eq (a b c : Int) : spec_l01In.f a b c = some (decide (b ≤ a ∧ a ≤ c)) := by
  unfold spec_l01In.f
  by_cases h : a ≥ b
  · rw [if_pos h]; simp [show b ≤ a from h]
  · rw [if_neg h]; simp [show ¬ b ≤ a from h]

/-! a grid's rule -/
def kindB (c : Int) : Bool := decide (c = 46 ∨ c = 35 ∨ (97 ≤ c ∧ c ≤ 102) ∨ (65 ≤ c ∧ c ≤ 70))
def cellsB (s : ByteArray) : Bool := (List.range' 0 s.size).all fun i => kindB (bt s (i : Nat))
def gridB (w h : Int) (s : ByteArray) : Bool := decide (((1 ≤ w ∧ w ≤ 8) ∧ (1 ≤ h ∧ h ≤ 8)) ∧ (s.size : Int) = w * h) && cellsB s
theorem mul_rng {w h : Int} (h1 : 1 ≤ w ∧ w ≤ 8) (h2 : 1 ≤ h ∧ h ≤ 8) : 1 ≤ w * h ∧ w * h ≤ 64 := by
  obtain ⟨a, b⟩ := h1
  obtain ⟨c, d⟩ := h2
  constructor
  · exact Int.le_trans (by omega : (1 : Int) ≤ 1 * 1) (Int.mul_le_mul a c (by omega) (by omega))
  · exact Int.mul_le_mul b d (by omega) (by omega)
theorem l02Kind_eq (c : Int) : spec_l02Kind.f c = some (kindB c) := by
  unfold spec_l02Kind.f kindB
  repeat' split
  all_goals first | exact congrArg some (decide_eq_decide.2 (by omega)) | (rw [decide_eq_true (by omega)]; done) | (rw [decide_eq_false (by omega)]; done)
theorem specGrid_l (w h : Int) (s : ByteArray) (hb : s.size ≤ 1048576) : ∀ (d i k : Nat), i + d = s.size → d < k →
    spec_GridOk.l0 k (i : Int) w h s = some ((List.range' i d).all fun j => kindB (bt s (j : Nat))) := by
  intro d
  induction d with
  | zero =>
    intro i k h1 hk
    obtain ⟨k, rfl⟩ := ksucc hk
    rw [spec_GridOk.l0, if_neg (by omega)]; rfl
  | succ d ih =>
    intro i k h1 hk
    obtain ⟨k, rfl⟩ := ksucc hk
    rw [spec_GridOk.l0, if_pos (by omega), if_pos (by omega), l02Kind_eq, wnat (by omega)]
    simp only [Option.bind_some]
    rw [List.range'_succ, List.all_cons]
    cases hc : kindB (bt s (i : Int))
    · simp
    · rw [if_pos rfl, ih (i + 1) k (by omega) (by omega)]; rfl
theorem implGrid_l (w h : Int) (s : ByteArray) (hb : s.size ≤ 1048576) : ∀ (d i k : Nat), i + d = s.size → d < k →
    impl_GridOk.l0 k (i : Int) w h s = some ((List.range' i d).all fun j => kindB (bt s (j : Nat))) := by
  intro d
  induction d with
  | zero =>
    intro i k h1 hk
    obtain ⟨k, rfl⟩ := ksucc hk
    rw [impl_GridOk.l0, if_neg (by omega)]; rfl
  | succ d ih =>
    intro i k h1 hk
    obtain ⟨k, rfl⟩ := ksucc hk
    rw [impl_GridOk.l0, if_pos (by omega), if_pos (by omega), wnat (by omega), ih (i + 1) k (by omega) (by omega)]
    rw [List.range'_succ, List.all_cons]
    generalize (List.range' (i + 1) d).all (fun j => kindB (bt s (j : Nat))) = X
    have hk2 : kindB (bt s (i : Int)) = decide (bt s i = 46 ∨ bt s i = 35 ∨ (97 ≤ bt s i ∧ bt s i ≤ 102) ∨ (65 ≤ bt s i ∧ bt s i ≤ 70)) := rfl
    rw [hk2]
    generalize bt s (i : Int) = c
    repeat' split
    all_goals (first | (rw [decide_eq_true (by omega), Bool.true_and]; done) | (rw [decide_eq_false (by omega), Bool.false_and]; done))
theorem specGrid_ev (w h : Int) (s : ByteArray) (hb : s.size ≤ 1048576) (k : Nat) (hk : s.size + 2 ≤ k) : spec_GridOk.f k w h s = some (gridB w h s) := by
  obtain ⟨k, rfl⟩ := ksucc (show 0 < k by omega)
  unfold spec_GridOk.f gridB
  simp only [l01In_eq, Option.bind_some, decide_eq_true_eq]
  by_cases h1 : 1 ≤ w ∧ w ≤ 8
  · rw [if_pos h1]
    by_cases h2 : 1 ≤ h ∧ h ≤ 8
    · have := mul_rng h1 h2
      rw [if_pos h2, w64 (by omega) (by omega), spec_GridOk.j0]
      by_cases h3 : (s.size : Int) = w * h
      · rw [if_neg (by simp [h3]), decide_eq_true ⟨⟨h1, h2⟩, h3⟩, Bool.true_and]
        exact specGrid_l w h s hb s.size 0 k (by omega) (by omega)
      · rw [if_pos (by simp [h3]), decide_eq_false (fun h => h3 h.2), Bool.false_and]
    · rw [if_neg h2, spec_GridOk.j0, if_pos rfl, decide_eq_false (fun h => h2 h.1.2), Bool.false_and]
  · rw [if_neg h1, spec_GridOk.j0, if_pos rfl, decide_eq_false (fun h => h1 h.1.1), Bool.false_and]
theorem implGrid_ev (w h : Int) (s : ByteArray) (hb : s.size ≤ 1048576) (k : Nat) (hk : s.size + 2 ≤ k) : impl_GridOk.f k w h s = some (gridB w h s) := by
  obtain ⟨k, rfl⟩ := ksucc (show 0 < k by omega)
  unfold impl_GridOk.f gridB
  have bad : ∀ p : Prop, [Decidable p] → ¬ p → impl_GridOk.j0 (k + 1) true w h s = some (decide p && cellsB s) := by
    intro p _ hp
    rw [impl_GridOk.j0, if_pos rfl, decide_eq_false hp, Bool.false_and]
  by_cases h1 : w < 1
  · rw [if_pos h1]; exact bad _ (fun h => by omega)
  rw [if_neg h1]
  by_cases h2 : w > 8
  · rw [if_pos h2]; exact bad _ (fun h => by omega)
  rw [if_neg h2]
  by_cases h3 : h < 1
  · rw [if_pos h3]; exact bad _ (fun h => by omega)
  rw [if_neg h3]
  by_cases h4 : h > 8
  · rw [if_pos h4]; exact bad _ (fun h => by omega)
  rw [if_neg h4]
  have g1 : 1 ≤ w ∧ w ≤ 8 := by omega
  have g2 : 1 ≤ h ∧ h ≤ 8 := by omega
  have := mul_rng g1 g2
  rw [w64 (by omega) (by omega), impl_GridOk.j0]
  by_cases h5 : (s.size : Int) = w * h
  · rw [if_neg (by simp [h5]), decide_eq_true ⟨⟨g1, g2⟩, h5⟩, Bool.true_and]
    exact implGrid_l w h s hb s.size 0 k (by omega) (by omega)
  · rw [if_pos (by simp [h5]), decide_eq_false (fun h => h5 h.2), Bool.false_and]

/-! free cells, parking cells -/
def freeB (s : ByteArray) (c : Int) : Bool := decide (0 ≤ c ∧ c < s.size) && (bt s c != 35)
def parkB (s : ByteArray) (c : Int) : Bool := decide (0 ≤ c ∧ c < s.size) && decide (65 ≤ bt s c ∧ bt s c ≤ 70)
theorem specFree_ev (w h : Int) (s : ByteArray) (c : Int) (hb : s.size ≤ 1048576) (k : Nat) (hk : s.size + 2 ≤ k) : spec_FreeAt.f k w h s c = some (gridB w h s && freeB s c) := by
  unfold spec_FreeAt.f freeB
  rw [specGrid_ev w h s hb k hk]
  simp only [Option.bind_some]
  cases gridB w h s
  · simp
  · by_cases h1 : 0 ≤ c
    · by_cases h2 : c < (s.size : Int)
      · simp [h1, h2]
      · simp [h1, h2]
    · simp [h1]
theorem implFree_ev (w h : Int) (s : ByteArray) (c : Int) : impl_isFree.f w h s c = some (freeB s c) := by
  unfold impl_isFree.f freeB
  by_cases h1 : 0 ≤ c
  · by_cases h2 : c < (s.size : Int)
    · simp [h1, h2]
    · simp [h1, h2]
  · simp [h1]
theorem specPark_ev (w h : Int) (s : ByteArray) (c : Int) (hb : s.size ≤ 1048576) (k : Nat) (hk : s.size + 2 ≤ k) : spec_ParkAt.f k w h s c = some (gridB w h s && parkB s c) := by
  unfold spec_ParkAt.f
  rw [specFree_ev w h s c hb k hk]
  simp only [Option.bind_some]
  unfold freeB parkB
  cases gridB w h s
  · simp
  · by_cases h1 : 0 ≤ c
    · by_cases h2 : c < (s.size : Int)
      · simp only [h1, h2, and_self, decide_true, Bool.true_and, if_true]
        by_cases h3 : bt s c = 35
        · rw [h3]; simp
        · rw [if_pos (by simpa using h3)]
          by_cases h4 : bt s c ≥ 65
          · rw [if_pos h4]; simp [show 65 ≤ bt s c from h4]
          · rw [if_neg h4]; simp [show ¬ 65 ≤ bt s c from h4]
      · simp [h1, h2]
    · simp [h1]
theorem implPark_ev (w h : Int) (s : ByteArray) (c : Int) (hb : s.size ≤ 1048576) (k : Nat) (hk : s.size + 2 ≤ k) : impl_ParkAt.f k w h s c = some (gridB w h s && parkB s c) := by
  unfold impl_ParkAt.f parkB
  rw [implGrid_ev w h s hb k hk]
  simp only [Option.bind_some]
  cases gridB w h s
  · simp
  · by_cases h1 : 0 ≤ c
    · by_cases h2 : c < (s.size : Int)
      · simp only [h1, h2, and_self, decide_true, Bool.true_and, if_true, show c ≥ 0 from h1]
        by_cases h4 : bt s c ≥ 65
        · rw [if_pos h4]; simp [show 65 ≤ bt s c from h4]
        · rw [if_neg h4]; simp [show ¬ 65 ≤ bt s c from h4]
      · simp [h1, h2]
    · simp [h1]

/-! is a number in a list -/
theorem rdH (xs : List Int) (i : Nat) (h : i < xs.length) : rd xs (i : Int) = xs[i] := by simp [rd, List.getD, h]
theorem specHas_l (xs : List Int) (x : Int) (hb : xs.length ≤ 16777216) : ∀ (d i k : Nat), i + d = xs.length → d < k → spec_l03Has.l0 k xs x (i : Int) = some ((xs.drop i).contains x) := by
  intro d
  induction d with
  | zero =>
    intro i k h hk
    obtain ⟨k, rfl⟩ := ksucc hk
    rw [spec_l03Has.l0, if_neg (by omega), List.drop_eq_nil_of_le (by omega)]
    rfl
  | succ d ih =>
    intro i k h hk
    obtain ⟨k, rfl⟩ := ksucc hk
    have hi : i < xs.length := by omega
    rw [spec_l03Has.l0, if_pos (by omega), if_pos (by omega), rdH xs i hi, wnat (by omega), ih (i + 1) k (by omega) (by omega), List.drop_eq_getElem_cons hi, List.contains_cons]
    by_cases e : xs[i] = x
    · rw [if_pos e, show (x == xs[i]) = true by simp [e]]; rfl
    · rw [if_neg e, show (x == xs[i]) = false by simpa using fun h => e h.symm, Bool.false_or]
theorem specHas_ev (xs : List Int) (x : Int) (hb : xs.length ≤ 16777216) (k : Nat) (hk : xs.length < k) : spec_l03Has.f k xs x = some (xs.contains x) := by
  have := specHas_l xs x hb xs.length 0 k (by omega) hk
  rwa [List.drop_zero] at this
theorem implIdx_l (xs : List Int) (x : Int) (hb : xs.length ≤ 16777216) : ∀ (d i k : Nat), i + d = xs.length → d < k → ∃ r, slices_Index_int_int.l0 k xs x (xs.length : Int) (i : Int) = some r ∧ decide (r ≥ 0) = (xs.drop i).contains x := by
  intro d
  induction d with
  | zero =>
    intro i k h hk
    obtain ⟨k, rfl⟩ := ksucc hk
    rw [slices_Index_int_int.l0, if_neg (by omega), List.drop_eq_nil_of_le (by omega)]
    exact ⟨-1, rfl, rfl⟩
  | succ d ih =>
    intro i k h hk
    obtain ⟨k, rfl⟩ := ksucc hk
    have hi : i < xs.length := by omega
    rw [slices_Index_int_int.l0, if_pos (by omega), if_pos (by omega), if_pos (by omega), rdH xs i hi, wnat (by omega), List.drop_eq_getElem_cons hi, List.contains_cons]
    by_cases e : x = xs[i]
    · rw [if_pos e, show (x == xs[i]) = true by simpa using e]
      exact ⟨i, rfl, by simp⟩
    · rw [if_neg e, show (x == xs[i]) = false by simpa using e, Bool.false_or]
      exact ih (i + 1) k (by omega) (by omega)
theorem implHas_ev (xs : List Int) (x : Int) (hb : xs.length ≤ 16777216) (k : Nat) (hk : xs.length < k) : slices_Contains_int_int.f k xs x = some (xs.contains x) := by
  unfold slices_Contains_int_int.f slices_Index_int_int.f
  obtain ⟨r, e, h⟩ := implIdx_l xs x hb xs.length 0 k (by omega) hk
  rw [show ((0 : Nat) : Int) = 0 from rfl] at e
  rw [e, Option.bind_some, h, List.drop_zero]

/-! lists of numbers, compared -/
theorem rdN (xs : List Int) (i : Nat) (h : i < xs.length) : rd xs (i : Int) = xs[i] := by simp [rd, List.getD, h]
theorem eqIntS_l (xs : List Int) (hb : xs.length ≤ 16777216) : ∀ (d i k : Nat), i + d = xs.length → d < k → laws_eqIntS.l0 k xs xs (i : Int) = some true := by
  intro d
  induction d with
  | zero =>
    intro i k h hk
    obtain ⟨k, rfl⟩ := ksucc hk
    rw [laws_eqIntS.l0, if_neg (by omega)]
  | succ d ih =>
    intro i k h hk
    obtain ⟨k, rfl⟩ := ksucc hk
    rw [laws_eqIntS.l0, if_pos (by omega), if_pos (by omega), if_pos (by omega), if_pos rfl, wnat (by omega)]
    exact ih (i + 1) k (by omega) (by omega)
theorem eqIntS_ev (xs : List Int) (hb : xs.length ≤ 16777216) (k : Nat) (hk : xs.length < k) : laws_eqIntS.f k xs xs = some true := by
  unfold laws_eqIntS.f
  rw [if_pos rfl]
  exact eqIntS_l xs hb xs.length 0 k (by omega) hk

/-! lists of numbers, marked -/
def nums1 (n m : Nat) : List Int := (List.range' n m).map fun (i : Nat) => (i : Int)
theorem nums1_length (n m : Nat) : (nums1 n m).length = m := by simp [nums1]
theorem nums1_get (n m i : Nat) (h : i < (nums1 n m).length) : (nums1 n m)[i] = ((n + i : Nat) : Int) := by simp [nums1]
theorem nums1_snoc (n m : Nat) : nums1 n (m + 1) = nums1 n m ++ [((n + m : Nat) : Int)] := by simp [nums1, List.range'_concat]
theorem markIntS_l (xs : List Int) (n : Nat) (hn : n ≤ 1125899906842624) (hb : xs.length ≤ 16777216) : ∀ (d i k : Nat), i + d = xs.length → d < k →
    laws_markIntS.l0 k (nums1 n i ++ xs.drop i) ((n + i : Nat) : Int) (i : Int) = some (((n + xs.length : Nat) : Int), nums1 n xs.length) := by
  intro d
  induction d with
  | zero =>
    intro i k h hk
    obtain ⟨k, rfl⟩ := ksucc hk
    have e : i = xs.length := by omega
    subst e
    have hl : (nums1 n xs.length ++ xs.drop xs.length).length = xs.length := by simp [nums1_length]
    rw [laws_markIntS.l0, if_neg (by rw [hl]; omega)]
    simp
  | succ d ih =>
    intro i k h hk
    obtain ⟨k, rfl⟩ := ksucc hk
    have hi : i < xs.length := by omega
    have hml := nums1_length n i
    have hl : (nums1 n i ++ xs.drop i).length = xs.length := by simp [hml]; omega
    rw [laws_markIntS.l0, if_pos (by rw [hl]; omega), if_pos (by omega)]
    have e0 : (i : Int).toNat = i := by omega
    rw [e0, wnat (i := n + i) (by omega), wnat (i := i) (by omega), List.drop_eq_getElem_cons hi, List.set_append_right _ _ (by omega), hml, Nat.sub_self, List.set_cons_zero]
    have e1 : nums1 n i ++ ((n + i : Nat) : Int) :: xs.drop (i + 1) = nums1 n (i + 1) ++ xs.drop (i + 1) := by rw [nums1_snoc, List.append_assoc]; rfl
    rw [e1]
    exact ih (i + 1) k (by omega) (by omega)
theorem markIntS_ev (xs : List Int) (n : Nat) (hn : n ≤ 1125899906842624) (hb : xs.length ≤ 16777216) (k : Nat) (hk : xs.length < k) : laws_markIntS.f k xs (n : Int) = some (((n + xs.length : Nat) : Int), nums1 n xs.length) := by
  have := markIntS_l xs n hn hb xs.length 0 k (by omega) hk
  simpa [laws_markIntS.f, nums1] using this

/-! Robots, compared -/
theorem rdIRobot (xs : List S89) (i : Nat) (h : i < xs.length) : rd_T89 xs (i : Int) = xs[i] := by simp [rd_T89, List.getD, h]
theorem eqRobot_refl (x0 : Int) (x1 : Int) (x2 : Int) (x3 : Bool) : laws_eqRobot.f x0 x1 x2 x3 x0 x1 x2 x3 = some true := by simp [laws_eqRobot.f]
theorem eqRobotS_l (xs : List S89) (hb : xs.length ≤ 1048576) : ∀ (d i k : Nat), i + d = xs.length → d < k → laws_eqRobotS.l0 k xs xs (i : Int) = some true := by
  intro d
  induction d with
  | zero =>
    intro i k h hk
    obtain ⟨k, rfl⟩ := ksucc hk
    simp only [laws_eqRobotS.l0]
    rw [if_neg (by omega)]
  | succ d ih =>
    intro i k h hk
    obtain ⟨k, rfl⟩ := ksucc hk
    simp only [laws_eqRobotS.l0, eqRobot_refl, Option.bind_some]
    rw [if_pos (by omega), if_pos (by omega), if_pos (by omega), if_pos trivial, wnat (by omega)]
    exact ih (i + 1) k (by omega) (by omega)
theorem eqRobotS_ev (xs : List S89) (hb : xs.length ≤ 1048576) (k : Nat) (hk : xs.length < k) : laws_eqRobotS.f k xs xs = some true := by
  unfold laws_eqRobotS.f
  rw [if_pos rfl]
  exact eqRobotS_l xs hb xs.length 0 k (by omega) hk

/-! ways, compared -/
theorem rdIWay (xs : List S159) (i : Nat) (h : i < xs.length) : rd_T159 xs (i : Int) = xs[i] := by simp [rd_T159, List.getD, h]
theorem eqWayS_l (xs : List S159) (hb : xs.length ≤ 1048576) (hw : ∀ x ∈ xs, x.f0.length ≤ 1048576) : ∀ (d i k : Nat), i + d = xs.length → d + 1048577 < k → laws_eqWayS.l0 k xs xs (i : Int) = some true := by
  intro d
  induction d with
  | zero =>
    intro i k h hk
    obtain ⟨k, rfl⟩ := ksucc (show 0 < k by omega)
    simp only [laws_eqWayS.l0]
    rw [if_neg (by omega)]
  | succ d ih =>
    intro i k h hk
    obtain ⟨k, rfl⟩ := ksucc (show 0 < k by omega)
    have hi : i < xs.length := by omega
    have hwi := hw _ (List.getElem_mem hi)
    simp only [laws_eqWayS.l0]
    rw [if_pos (by omega), if_pos (by omega), if_pos (by omega), rdIWay xs i hi]
    unfold laws_eqWay.f
    rw [eqIntS_ev _ (by omega) k (by omega)]
    simp only [Option.bind_some]
    rw [if_pos trivial]
    simp only [Option.bind_some]
    rw [if_pos trivial, wnat (by omega)]
    exact ih (i + 1) k (by omega) (by omega)
theorem eqWayS_ev (xs : List S159) (hb : xs.length ≤ 1048576) (hw : ∀ x ∈ xs, x.f0.length ≤ 1048576) (k : Nat) (hk : xs.length + 1048577 < k) : laws_eqWayS.f k xs xs = some true := by
  unfold laws_eqWayS.f
  rw [if_pos rfl]
  exact eqWayS_l xs hb hw xs.length 0 k (by omega) hk

/-! Jobs, compared -/
theorem rdIJob (xs : List S103) (i : Nat) (h : i < xs.length) : rd_T103 xs (i : Int) = xs[i] := by simp [rd_T103, List.getD, h]
theorem eqJob_refl (x0 : Int) (x1 : Int) (x2 : Bool) : laws_eqJob.f x0 x1 x2 x0 x1 x2 = some true := by simp [laws_eqJob.f]
theorem eqJobS_l (xs : List S103) (hb : xs.length ≤ 1048576) : ∀ (d i k : Nat), i + d = xs.length → d < k → laws_eqJobS.l0 k xs xs (i : Int) = some true := by
  intro d
  induction d with
  | zero =>
    intro i k h hk
    obtain ⟨k, rfl⟩ := ksucc hk
    simp only [laws_eqJobS.l0]
    rw [if_neg (by omega)]
  | succ d ih =>
    intro i k h hk
    obtain ⟨k, rfl⟩ := ksucc hk
    simp only [laws_eqJobS.l0, eqJob_refl, Option.bind_some]
    rw [if_pos (by omega), if_pos (by omega), if_pos (by omega), if_pos trivial, wnat (by omega)]
    exact ih (i + 1) k (by omega) (by omega)
theorem eqJobS_ev (xs : List S103) (hb : xs.length ≤ 1048576) (k : Nat) (hk : xs.length < k) : laws_eqJobS.f k xs xs = some true := by
  unfold laws_eqJobS.f
  rw [if_pos rfl]
  exact eqJobS_l xs hb xs.length 0 k (by omega) hk

/-! a yard, compared with itself -/
theorem eqYard_ev (k : Nat) (w h : Int) (s : ByteArray) (a b c z : Int) (rs : List S89) (d e : Int) (ws : List Int) (f : Int) (g : Bool) (l m : Int) (ways : List S159) (js : List S103) (gs : List Int)
    (hrs : rs.length ≤ 1048576) (hws : ws.length ≤ 1048576) (hwz : ways.length ≤ 1048576) (hww : ∀ x ∈ ways, x.f0.length ≤ 1048576) (hjs : js.length ≤ 1048576) (hgs : gs.length ≤ 1048576) (hk : 2097153 < k) :
    laws_eqYard.f k w h s a b c z rs d e ws f g l m ways js gs w h s a b c z rs d e ws f g l m ways js gs = some true := by
  unfold laws_eqYard.f laws_eqSetup.f laws_eqGrid.f laws_eqWindow.f laws_eqPlan.f
  rw [eqRobotS_ev rs hrs k (by omega), eqIntS_ev ws (by omega) k (by omega), eqWayS_ev ways hwz hww k (by omega), eqJobS_ev js hjs k (by omega), eqIntS_ev gs (by omega) k (by omega)]
  simp

/-! marking a yard that is given away: some number comes out -/
theorem markRobotA : ∀ (d i k : Nat) (xs : List S89) (v : Int), i + d = xs.length → d < k → xs.length ≤ 16777216 → 0 ≤ v → v + 4 * d ≤ 1125899906842624 → ∃ ys, laws_markRobotS.l0 k xs v (i : Int) = some (v + 4 * d, ys) := by
  intro d
  induction d with
  | zero =>
    intro i k xs v h hk _ hv _
    obtain ⟨k, rfl⟩ := ksucc hk
    exact ⟨xs, by rw [laws_markRobotS.l0, if_neg (by omega)]; simp⟩
  | succ d ih =>
    intro i k xs v h hk hl hv hv2
    obtain ⟨k, rfl⟩ := ksucc hk
    rw [laws_markRobotS.l0, if_pos (by omega), if_pos (by omega), wnat (i := i) (by omega), w64 (x := v + 1) (by omega) (by omega), w64 (x := v + 1 + 1) (by omega) (by omega), w64 (x := v + 1 + 1 + 1) (by omega) (by omega), w64 (x := v + 1 + 1 + 1 + 1) (by omega) (by omega)]
    simp only [Option.bind_some]
    suffices H : ∀ zs : List S89, zs.length = xs.length → ∃ ys, laws_markRobotS.l0 k zs (v + 1 + 1 + 1 + 1) ((i + 1 : Nat) : Int) = some (v + 4 * ((d + 1 : Nat) : Int), ys) from H _ (by simp)
    intro zs hz
    obtain ⟨ys, e⟩ := ih (i + 1) k zs (v + 1 + 1 + 1 + 1) (by omega) (by omega) (by omega) (by omega) (by omega)
    exact ⟨ys, e.trans (by congr 2; omega)⟩
theorem markJobA : ∀ (d i k : Nat) (xs : List S103) (v : Int), i + d = xs.length → d < k → xs.length ≤ 16777216 → 0 ≤ v → v + 3 * d ≤ 1125899906842624 → ∃ ys, laws_markJobS.l0 k xs v (i : Int) = some (v + 3 * d, ys) := by
  intro d
  induction d with
  | zero =>
    intro i k xs v h hk _ hv _
    obtain ⟨k, rfl⟩ := ksucc hk
    exact ⟨xs, by rw [laws_markJobS.l0, if_neg (by omega)]; simp⟩
  | succ d ih =>
    intro i k xs v h hk hl hv hv2
    obtain ⟨k, rfl⟩ := ksucc hk
    rw [laws_markJobS.l0, if_pos (by omega), if_pos (by omega), wnat (i := i) (by omega), w64 (x := v + 1) (by omega) (by omega), w64 (x := v + 1 + 1) (by omega) (by omega), w64 (x := v + 1 + 1 + 1) (by omega) (by omega)]
    simp only [Option.bind_some]
    suffices H : ∀ zs : List S103, zs.length = xs.length → ∃ ys, laws_markJobS.l0 k zs (v + 1 + 1 + 1) ((i + 1 : Nat) : Int) = some (v + 3 * ((d + 1 : Nat) : Int), ys) from H _ (by simp)
    intro zs hz
    obtain ⟨ys, e⟩ := ih (i + 1) k zs (v + 1 + 1 + 1) (by omega) (by omega) (by omega) (by omega) (by omega)
    exact ⟨ys, e.trans (by congr 2; omega)⟩
theorem markIntA (xs : List Int) (v : Int) (hv : 0 ≤ v) (hv2 : v ≤ 562949953421312) (hb : xs.length ≤ 16777216) (k : Nat) (hk : xs.length < k) : ∃ ys, laws_markIntS.f k xs v = some (v + xs.length, ys) := by
  obtain ⟨n, rfl⟩ : ∃ n : Nat, v = n := ⟨v.toNat, by omega⟩
  exact ⟨_, (markIntS_ev xs n (by omega) hb k hk).trans (by congr 2)⟩
theorem markWayA (k : Nat) (hk : 1048576 < k) : ∀ (ways : List S159) (v : Int), 0 ≤ v → v + ways.length * 1048576 ≤ 562949953421312 → (∀ x ∈ ways, x.f0.length ≤ 1048576) → ∃ r, laws_markWayS.l k ways v = some r ∧ v ≤ r ∧ r ≤ v + ways.length * 1048576 := by
  intro ways
  induction ways with
  | nil => exact fun v hv _ _ => ⟨v, rfl, by omega, by simp⟩
  | cons x t ih =>
    intro v hv hv2 hx
    rw [List.length_cons] at hv2 ⊢
    have hx1 := hx x (by simp)
    obtain ⟨ys, e⟩ := markIntA x.f0 v hv (by omega) (by omega) k (by omega)
    obtain ⟨r, e2, h1, h2⟩ := ih (v + x.f0.length) (by omega) (by omega) (fun y hy => hx y (by simp [hy]))
    refine ⟨r, ?_, by omega, by omega⟩
    rw [laws_markWayS.l, e, Option.bind_some]
    exact e2
theorem markYardA (k : Nat) (w h : Int) (s : ByteArray) (a b c z : Int) (rs : List S89) (d e : Int) (ws : List Int) (f : Int) (g : Bool) (l m : Int) (ways : List S159) (js : List S103) (gs : List Int)
    (hrs : rs.length ≤ 1048576) (hws : ws.length ≤ 1048576) (hwz : ways.length ≤ 1048576) (hww : ∀ x ∈ ways, x.f0.length ≤ 1048576) (hjs : js.length ≤ 1048576) (hgs : gs.length ≤ 1048576) (hk : 2097153 < k) :
    ∃ r, laws_markYard.f k w h s a b c z rs d e ws f g l m ways js gs 1 = some r ∧ 0 ≤ r := by
  unfold laws_markYard.f laws_markWindow.f laws_markPlan.f laws_markWayS.f laws_markRobotS.f laws_markJobS.f
  obtain ⟨y1, e1⟩ := markRobotA rs.length 0 k rs 1 (by omega) (by omega) (by omega) (by omega) (by omega)
  rw [show ((0 : Nat) : Int) = 0 from rfl] at e1
  rw [e1]
  simp only [Option.bind_some]
  obtain ⟨y2, e2⟩ := markIntA ws (1 + 4 * rs.length) (by omega) (by omega) (by omega) k (by omega)
  rw [e2]
  simp only [Option.bind_some]
  obtain ⟨r3, e3, h3, h4⟩ := markWayA k (by omega) ways (1 + 4 * rs.length + ws.length) (by omega) (by omega) hww
  rw [e3]
  simp only [Option.bind_some]
  obtain ⟨y4, e4⟩ := markJobA js.length 0 k js r3 (by omega) (by omega) (by omega) (by omega) (by omega)
  rw [show ((0 : Nat) : Int) = 0 from rfl] at e4
  rw [e4]
  simp only [Option.bind_some]
  obtain ⟨y5, e5⟩ := markIntA gs (r3 + 3 * js.length) (by omega) (by omega) (by omega) k (by omega)
  rw [e5]
  exact ⟨_, rfl, by omega⟩

/-! texts: compared, marked, held -/
theorem rdTx (xs : List ByteArray) (i : Nat) (h : i < xs.length) : rdOf ByteArray.empty xs (i : Int) = xs[i] := by simp [rdOf, List.getD, h]
theorem eqStringS_l (xs : List ByteArray) (hb : xs.length ≤ 16777216) : ∀ (d i k : Nat), i + d = xs.length → d < k → laws_eqStringS.l0 k xs xs (i : Int) = some true := by
  intro d
  induction d with
  | zero =>
    intro i k h hk
    obtain ⟨k, rfl⟩ := ksucc hk
    rw [laws_eqStringS.l0, if_neg (by omega)]
  | succ d ih =>
    intro i k h hk
    obtain ⟨k, rfl⟩ := ksucc hk
    rw [laws_eqStringS.l0, if_pos (by omega), if_pos (by omega), if_pos (by omega), if_pos rfl, wnat (by omega)]
    exact ih (i + 1) k (by omega) (by omega)
theorem eqStringS_ev (xs : List ByteArray) (hb : xs.length ≤ 16777216) (k : Nat) (hk : xs.length < k) : laws_eqStringS.f k xs xs = some true := by
  unfold laws_eqStringS.f
  rw [if_pos rfl]
  exact eqStringS_l xs hb xs.length 0 k (by omega) hk
theorem markText_l : ∀ (n : Nat) (v : Int) (acc : ByteArray) (k : Nat), n ≤ 18 → 0 ≤ v → v < ((10 ^ n : Nat) : Int) → n < k → acc.size + n ≤ 1000 → ∃ t, laws_markText.l0 k v acc = some t := by
  intro n
  induction n with
  | zero =>
    intro v acc k hn h0 h1 hk hs
    obtain ⟨k, rfl⟩ := ksucc hk
    rw [laws_markText.l0, if_neg (by simp at h1; omega), if_pos (by omega)]
    exact ⟨_, rfl⟩
  | succ n ih =>
    intro v acc k hn h0 h1 hk hs
    obtain ⟨k, rfl⟩ := ksucc hk
    rw [laws_markText.l0]
    by_cases hv : v > 0
    · rw [if_pos hv]
      simp only [Option.bind_some]
      have hz : ∀ c : Int, (strOfNums [c]).size = 1 := fun c => by simp [strOfNums, ByteArray.size]
      have hd : Int.tdiv v 10 = v / 10 := Int.tdiv_eq_ediv_of_nonneg h0
      have hlt : 10 ^ (n + 1) ≤ 10 ^ 18 := Nat.pow_le_pow_right (by decide) hn
      rw [Nat.pow_succ] at h1 hlt
      have h3 : v / 10 < ((10 ^ n : Nat) : Int) := by omega
      have h4 : v < 1000000000000000000 := by omega
      rw [hz, if_pos (by omega), hd, w64 (by omega) (by omega)]
      exact ih (v / 10) _ k (by omega) (by omega) h3 (by omega) (by rw [ByteArray.size_append, hz]; omega)
    · rw [if_neg hv, if_pos (by omega)]
      exact ⟨_, rfl⟩
theorem markText_ev (v : Nat) (hv : v < 1000000000) : ∃ t, ∀ k, 12 ≤ k → laws_markText.f k v = some t := by
  have h12 : ∃ t, laws_markText.f 12 (v : Int) = some t := by
    unfold laws_markText.f
    by_cases h : (v : Int) ≤ 0
    · exact ⟨_, if_pos h⟩
    · rw [if_neg h]
      exact markText_l 9 v _ 12 (by omega) (by omega) (by omega) (by omega) (by simp [ByteArray.size])
  obtain ⟨t, ht⟩ := h12
  exact ⟨t, fun k hk => at_rounds (g := fun k => laws_markText.f k v) (fun k => laws_markText.mono _ k) hk (r := t) ht⟩
theorem texts_of : ∃ T : Nat → ByteArray, ∀ v : Nat, v < 1000000000 → ∀ k, 12 ≤ k → laws_markText.f k (v : Int) = some (T v) :=
  ⟨fun v => if h : v < 1000000000 then Classical.choose (markText_ev v h) else ByteArray.empty, fun v hv k hk => by
    show laws_markText.f k v = some (dite _ _ _)
    rw [dif_pos hv]
    exact Classical.choose_spec (markText_ev v hv) k hk⟩
def textsOf (T : Nat → ByteArray) (n m : Nat) : List ByteArray := (List.range' n m).map T
theorem textsOf_length (T : Nat → ByteArray) (n m : Nat) : (textsOf T n m).length = m := by simp [textsOf]
theorem textsOf_get (T : Nat → ByteArray) (n m i : Nat) (h : i < (textsOf T n m).length) : (textsOf T n m)[i] = T (n + i) := by simp [textsOf]
theorem textsOf_snoc (T : Nat → ByteArray) (n m : Nat) : textsOf T n (m + 1) = textsOf T n m ++ [T (n + m)] := by simp [textsOf, List.range'_concat]
theorem markStringS_l (T : Nat → ByteArray) (hT : ∀ v : Nat, v < 1000000000 → ∀ k, 12 ≤ k → laws_markText.f k (v : Int) = some (T v)) (xs : List ByteArray) (n : Nat) (hn : n + xs.length < 1000000000) : ∀ (d i k : Nat), i + d = xs.length → d + 12 < k →
    laws_markStringS.l0 k (textsOf T n i ++ xs.drop i) ((n + i : Nat) : Int) (i : Int) = some (((n + xs.length : Nat) : Int), textsOf T n xs.length) := by
  intro d
  induction d with
  | zero =>
    intro i k h hk
    obtain ⟨k, rfl⟩ := ksucc (show 0 < k by omega)
    have e : i = xs.length := by omega
    subst e
    have hl : (textsOf T n xs.length ++ xs.drop xs.length).length = xs.length := by simp [textsOf_length]
    rw [laws_markStringS.l0, if_neg (by rw [hl]; omega)]
    simp
  | succ d ih =>
    intro i k h hk
    obtain ⟨k, rfl⟩ := ksucc (show 0 < k by omega)
    have hi : i < xs.length := by omega
    have hml := textsOf_length T n i
    have hl : (textsOf T n i ++ xs.drop i).length = xs.length := by simp [hml]; omega
    rw [laws_markStringS.l0, if_pos (by rw [hl]; omega), hT (n + i) (by omega) k (by omega), Option.bind_some, if_pos (by omega)]
    have e0 : (i : Int).toNat = i := by omega
    rw [e0, wnat (i := n + i) (by omega), wnat (i := i) (by omega), List.drop_eq_getElem_cons hi, List.set_append_right _ _ (by omega), hml, Nat.sub_self, List.set_cons_zero]
    have e1 : textsOf T n i ++ T (n + i) :: xs.drop (i + 1) = textsOf T n (i + 1) ++ xs.drop (i + 1) := by rw [textsOf_snoc, List.append_assoc]; rfl
    rw [e1]
    exact ih (i + 1) k (by omega) (by omega)
theorem heldStringS_l (T : Nat → ByteArray) (hT : ∀ v : Nat, v < 1000000000 → ∀ k, 12 ≤ k → laws_markText.f k (v : Int) = some (T v)) (n m : Nat) (hn : n + m < 1000000000) : ∀ (d i k : Nat), i + d = m → d + 12 < k →
    laws_heldStringS.l0 k (textsOf T n m) ((n + i : Nat) : Int) (i : Int) = some ((n + m : Nat) : Int) := by
  intro d
  have hml := textsOf_length T n m
  induction d with
  | zero =>
    intro i k h hk
    obtain ⟨k, rfl⟩ := ksucc (show 0 < k by omega)
    have e : i = m := by omega
    subst e
    rw [laws_heldStringS.l0, if_neg (by omega)]
  | succ d ih =>
    intro i k h hk
    obtain ⟨k, rfl⟩ := ksucc (show 0 < k by omega)
    rw [laws_heldStringS.l0, if_pos (by omega), if_pos (by omega), hT (n + i) (by omega) k (by omega), Option.bind_some, rdTx _ i (by omega), textsOf_get, if_pos rfl, wnat (i := n + i) (by omega), wnat (i := i) (by omega)]
    exact ih (i + 1) k (by omega) (by omega)
theorem markHeldStringS_ev (xs : List ByteArray) (hb : xs.length ≤ 1048576) : ∃ ys, (∀ k, xs.length + 12 < k → laws_markStringS.f k xs 1 = some (((1 + xs.length : Nat) : Int), ys)) ∧ (∀ k, xs.length + 12 < k → laws_heldStringS.f k ys 1 = some ((1 + xs.length : Nat) : Int)) := by
  obtain ⟨T, hT⟩ := texts_of
  refine ⟨textsOf T 1 xs.length, fun k hk => ?_, fun k hk => ?_⟩
  · have := markStringS_l T hT xs 1 (by omega) xs.length 0 k (by omega) hk
    simpa [laws_markStringS.f, textsOf] using this
  · have := heldStringS_l T hT 1 xs.length (by omega) xs.length 0 k (by omega) hk
    simpa [laws_heldStringS.f] using this

def digB (a : Int) : Int := (wrap64 (48 + (if a < 0 then wrap64 (-a) else a))) % 256
def lateB (s : ByteArray) (rs : List S89) (g : Bool) (gs : List Int) (c : Int) : Int := if rs.any (fun r => r.f2 == c) then 43 else if (g && gs.contains c) = true then 42 else if parkB s c then 95 else 46
def foundB (s : ByteArray) (rs xs : List S89) (g : Bool) (gs : List Int) (c : Int) : Int := match xs.find? (fun r => r.f1 == c) with | some r => digB (Int.tmod r.f0 10) | none => lateB s rs g gs c
def cellB (s : ByteArray) (rs : List S89) (g : Bool) (gs : List Int) (c : Int) : Int := if freeB s c then foundB s rs rs g gs c else 35
theorem sized_eq (a : Int) : (spec_l29Sized.f a).bind (fun t => some ((wrap64 (48 + t)) % 256)) = some (digB a) := by
  unfold spec_l29Sized.f digB
  by_cases h : a < 0
  · rw [if_pos h, if_pos h]; rfl
  · rw [if_neg h, if_neg h]; rfl
theorem mx_eq (n : Int) : (wrap64 (48 + (mx (Int.tmod n 10) (wrap64 (-(Int.tmod n 10)))))) % 256 = digB (Int.tmod n 10) := by
  have h1 : Int.tmod n 10 < 10 := Int.tmod_lt_of_pos n (by decide)
  have h2 : -10 < Int.tmod n 10 := by
    have := Int.lt_tmod_of_pos n (show (0 : Int) < 10 by decide)
    omega
  generalize Int.tmod n 10 = a at h1 h2
  unfold digB mx
  rw [w64 (x := -a) (by omega) (by omega)]
  by_cases h : a < 0
  · rw [if_pos h, if_pos (by omega)]
  · rw [if_neg h, if_neg (by omega)]
section
variable (w h : Int) (s : ByteArray) (a b c z : Int) (rs : List S89) (d e : Int) (ws : List Int) (f : Int) (g : Bool) (l m : Int) (ways : List S159) (js : List S103) (gs : List Int)
variable (hs : s.size ≤ 1048576) (hrs : rs.length ≤ 1048576) (hgs : gs.length ≤ 1048576) (hg : gridB w h s = true)
include hs hg in
theorem specCell_j2 (x : Int) (k : Nat) (hk : s.size + 3 ≤ k) (t : Bool) : spec_l29Cell.j2 k x t w h s a b c z rs d e ws f g l m ways js gs = some (if t = true then 42 else if parkB s x then 95 else 46) := by
  obtain ⟨k, rfl⟩ := ksucc (show 0 < k by omega)
  rw [spec_l29Cell.j2]
  cases t
  · rw [if_neg (by simp), if_neg (by simp), specPark_ev w h s x hs k (by omega), hg, Bool.true_and, Option.bind_some]
    cases parkB s x <;> rfl
  · rw [if_pos rfl, if_pos rfl]
include hs hrs hgs hg in
theorem specCell_l1 (x : Int) : ∀ (n i k : Nat), i + n = rs.length → n + s.size + gs.length + 5 ≤ k → spec_l29Cell.l1 k x (i : Int) w h s a b c z rs d e ws f g l m ways js gs = some (lateB s (rs.drop i) g gs x) := by
  intro n
  induction n with
  | zero =>
    intro i k hi hk
    obtain ⟨k, rfl⟩ := ksucc (show 0 < k by omega)
    rw [spec_l29Cell.l1, if_neg (by omega), List.drop_eq_nil_of_le (by omega)]
    unfold lateB
    rw [if_neg (c := (([] : List S89).any fun r => r.f2 == x) = true) (by simp)]
    cases g
    · rw [if_neg (c := (false = true)) (by simp), specCell_j2 w h s a b c z rs d e ws f false l m ways js gs hs hg x k (by omega), Bool.false_and]
    · rw [if_pos (c := (true = true)) rfl, specHas_ev gs x (by omega) k (by omega), Option.bind_some, specCell_j2 w h s a b c z rs d e ws f true l m ways js gs hs hg x k (by omega), Bool.true_and]
  | succ n ih =>
    intro i k hi hk
    obtain ⟨k, rfl⟩ := ksucc (show 0 < k by omega)
    have hir : i < rs.length := by omega
    rw [spec_l29Cell.l1, if_pos (by omega), if_pos (by omega), rdIRobot rs i hir, wnat (by omega), ih (i + 1) k (by omega) (by omega), List.drop_eq_getElem_cons hir]
    unfold lateB
    rw [List.any_cons]
    by_cases e1 : rs[i].f2 = x
    · rw [if_pos e1, show (rs[i].f2 == x) = true by simpa using e1, Bool.true_or, if_pos rfl]
    · rw [if_neg e1, show (rs[i].f2 == x) = false by simpa using e1, Bool.false_or]
include hs hrs hgs hg in
theorem specCell_l0 (x : Int) : ∀ (n i k : Nat), i + n = rs.length → n + rs.length + s.size + gs.length + 7 ≤ k → spec_l29Cell.l0 k x (i : Int) w h s a b c z rs d e ws f g l m ways js gs = some (foundB s rs (rs.drop i) g gs x) := by
  intro n
  induction n with
  | zero =>
    intro i k hi hk
    obtain ⟨k, rfl⟩ := ksucc (show 0 < k by omega)
    have := specCell_l1 w h s a b c z rs d e ws f g l m ways js gs hs hrs hgs hg x rs.length 0 k (by omega) (by omega)
    rw [show ((0 : Nat) : Int) = 0 from rfl, List.drop_zero] at this
    rw [spec_l29Cell.l0, if_neg (by omega), List.drop_eq_nil_of_le (by omega), this]
    rfl
  | succ n ih =>
    intro i k hi hk
    obtain ⟨k, rfl⟩ := ksucc (show 0 < k by omega)
    have hir : i < rs.length := by omega
    rw [spec_l29Cell.l0, if_pos (by omega), if_pos (by omega), rdIRobot rs i hir, wnat (by omega), ih (i + 1) k (by omega) (by omega), List.drop_eq_getElem_cons hir, sized_eq]
    unfold foundB
    rw [List.find?_cons]
    by_cases e1 : rs[i].f1 = x
    · rw [if_pos e1, show (rs[i].f1 == x) = true by simpa using e1]
    · rw [if_neg e1, show (rs[i].f1 == x) = false by simpa using e1]
include hs hrs hgs hg in
theorem specCell_ev (x : Int) (k : Nat) (hk : 2 * rs.length + s.size + gs.length + 7 ≤ k) : spec_l29Cell.f k w h s a b c z rs d e ws f g l m ways js gs x = some (cellB s rs g gs x) := by
  have := specCell_l0 w h s a b c z rs d e ws f g l m ways js gs hs hrs hgs hg x rs.length 0 k (by omega) (by omega)
  rw [show ((0 : Nat) : Int) = 0 from rfl, List.drop_zero] at this
  unfold spec_l29Cell.f cellB
  rw [specFree_ev w h s x hs k (by omega), hg, Bool.true_and, Option.bind_some, this]
  cases freeB s x <;> rfl
include hs hg in
theorem implMark_j1 (x : Int) (k : Nat) (hk : s.size + 3 ≤ k) (t : Bool) : impl_mark.j1 k t w h s a b c z rs d e ws f g l m ways js gs x = some (if t = true then 42 else if parkB s x then 95 else 46) := by
  obtain ⟨k, rfl⟩ := ksucc (show 0 < k by omega)
  rw [impl_mark.j1]
  cases t
  · rw [if_neg (by simp), if_neg (by simp), implPark_ev w h s x hs k (by omega), hg, Bool.true_and, Option.bind_some]
    cases parkB s x <;> rfl
  · rw [if_pos rfl, if_pos rfl]
include hs hrs hgs hg in
theorem implMark_l0 (x : Int) : ∀ (n i k : Nat), i + n = rs.length → n + s.size + gs.length + 7 ≤ k → impl_mark.l0 k rs (rs.length : Int) (i : Int) w h s a b c z rs d e ws f g l m ways js gs x = some (foundB s rs (rs.drop i) g gs x) := by
  intro n
  induction n with
  | zero =>
    intro i k hi hk
    obtain ⟨k, rfl⟩ := ksucc (show 0 < k by omega)
    rw [impl_mark.l0, if_neg (by omega), List.drop_eq_nil_of_le (by omega)]
    unfold impl_mark_1.f
    rw [Option.bind_some]
    show _ = some (lateB s rs g gs x)
    unfold lateB
    cases rs.any fun r => r.f2 == x
    · rw [if_neg (c := (false = true)) (by simp), if_neg (c := (false = true)) (by simp)]
      cases g
      · rw [if_neg (c := (false = true)) (by simp), implMark_j1 w h s a b c z rs d e ws f false l m ways js gs hs hg x k (by omega), Bool.false_and]
      · rw [if_pos (c := (true = true)) rfl, implHas_ev gs x (by omega) k (by omega), Option.bind_some, implMark_j1 w h s a b c z rs d e ws f true l m ways js gs hs hg x k (by omega), Bool.true_and]
    · rw [if_pos rfl, if_pos rfl]
  | succ n ih =>
    intro i k hi hk
    obtain ⟨k, rfl⟩ := ksucc (show 0 < k by omega)
    have hir : i < rs.length := by omega
    rw [impl_mark.l0, if_pos (by omega), if_pos (by omega), if_pos (by omega), rdIRobot rs i hir, wnat (by omega), ih (i + 1) k (by omega) (by omega), List.drop_eq_getElem_cons hir, mx_eq]
    unfold foundB
    rw [List.find?_cons]
    by_cases e1 : rs[i].f1 = x
    · rw [if_pos e1, show (rs[i].f1 == x) = true by simpa using e1]
    · rw [if_neg e1, show (rs[i].f1 == x) = false by simpa using e1]
include hs hrs hgs hg in
theorem implMark_ev (x : Int) (k : Nat) (hk : rs.length + s.size + gs.length + 7 ≤ k) : impl_mark.f k w h s a b c z rs d e ws f g l m ways js gs x = some (cellB s rs g gs x) := by
  have := implMark_l0 w h s a b c z rs d e ws f g l m ways js gs hs hrs hgs hg x rs.length 0 k (by omega) (by omega)
  rw [show ((0 : Nat) : Int) = 0 from rfl, List.drop_zero] at this
  unfold impl_mark.f cellB
  rw [implFree_ev, Option.bind_some, this]
  cases freeB s x <;> rfl
end
def rowB (s : ByteArray) (rs : List S89) (g : Bool) (gs : List Int) (w : Nat) (y : Nat) : ByteArray := strOfNums ((List.range' 0 w).map fun x => cellB s rs g gs ((y * w + x : Nat) : Int))
section
variable (W H : Nat) (s : ByteArray) (a b c z : Int) (rs : List S89) (d e : Int) (ws : List Int) (f : Int) (g : Bool) (l m : Int) (ways : List S159) (js : List S103) (gs : List Int)
variable (hs : s.size ≤ 1048576) (hrs : rs.length ≤ 1048576) (hgs : gs.length ≤ 1048576) (hW : W ≤ 8) (hH : H ≤ 8) (hg : gridB W H s = true)
include hs hrs hgs hW hg in
theorem specMap_l1 (out : List ByteArray) (y : Nat) (hy : y < 8) (ho : out.length ≤ 100) : ∀ (n x k : Nat), x + n = W → n + 2 * rs.length + s.size + gs.length + 20 ≤ k →
    spec_MapText.l1 k out (y : Int) ((List.range' 0 x).map fun i => cellB s rs g gs ((y * W + i : Nat) : Int)) (x : Int) W H s a b c z rs d e ws f g l m ways js gs W H s = spec_MapText.l0 (k - n - 1) (out ++ [rowB s rs g gs W y]) ((y + 1 : Nat) : Int) W H s a b c z rs d e ws f g l m ways js gs W H s := by
  intro n
  induction n with
  | zero =>
    intro x k hx hk
    obtain ⟨k, rfl⟩ := ksucc (show 0 < k by omega)
    have e : x = W := by omega
    subst e
    rw [spec_MapText.l1, if_neg (by omega), if_pos (by omega), wnat (by omega)]
    rfl
  | succ n ih =>
    intro x k hx hk
    obtain ⟨k, rfl⟩ := ksucc (show 0 < k by omega)
    have hyW : y * W ≤ 64 := Nat.mul_le_mul (show y ≤ 8 by omega) hW
    have e1 : wrap64 (wrap64 ((y : Int) * (W : Int)) + (x : Int)) = ((y * W + x : Nat) : Int) := by
      rw [w64 (x := (y : Int) * W) (by rw [← Int.natCast_mul]; omega) (by rw [← Int.natCast_mul]; omega), ← Int.natCast_mul, w64 (by omega) (by omega)]
      rfl
    rw [spec_MapText.l1, if_pos (by omega), e1]
    clear e1
    have hlx : ((List.range' 0 x).map fun i => cellB s rs g gs ((y * W + i : Nat) : Int)).length = x := by simp
    rw [specCell_ev W H s a b c z rs d e ws f g l m ways js gs hs hrs hgs hg _ k (by omega), Option.bind_some, if_pos (by rw [hlx]; omega), wnat (by omega)]
    have e2 : ((List.range' 0 x).map fun i => cellB s rs g gs ((y * W + i : Nat) : Int)) ++ [cellB s rs g gs ((y * W + x : Nat) : Int)] = (List.range' 0 (x + 1)).map fun i => cellB s rs g gs ((y * W + i : Nat) : Int) := by
      rw [List.range'_concat, List.map_append]; simp
    rw [e2, ih (x + 1) k (by omega) (by omega)]
    congr 1
    omega
include hs hrs hgs hW hH hg in
theorem specMap_l0 : ∀ (n y k : Nat), y + n = H → n * 20 + 2 * rs.length + s.size + gs.length + 60 ≤ k →
    spec_MapText.l0 k ((List.range' 0 y).map (rowB s rs g gs W)) (y : Int) W H s a b c z rs d e ws f g l m ways js gs W H s = some ((List.range' 0 H).map (rowB s rs g gs W)) := by
  intro n
  induction n with
  | zero =>
    intro y k hy hk
    obtain ⟨k, rfl⟩ := ksucc (show 0 < k by omega)
    obtain ⟨k, rfl⟩ := ksucc (show 0 < k by omega)
    have e : y = H := by omega
    subst e
    rw [spec_MapText.l0, specGrid_ev _ _ s hs _ (by omega), hg, Option.bind_some, if_pos rfl, spec_MapText.j1, if_neg (by simp)]
  | succ n ih =>
    intro y k hy hk
    obtain ⟨k, rfl⟩ := ksucc (show 0 < k by omega)
    obtain ⟨k, rfl⟩ := ksucc (show 0 < k by omega)
    have := specMap_l1 W H s a b c z rs d e ws f g l m ways js gs hs hrs hgs hW hg ((List.range' 0 y).map (rowB s rs g gs W)) y (by omega) (by simp; omega) W 0 k (by omega) (by omega)
    rw [show ((0 : Nat) : Int) = 0 from rfl] at this
    rw [spec_MapText.l0, specGrid_ev _ _ s hs _ (by omega), hg, Option.bind_some, if_pos rfl, spec_MapText.j1, if_pos (by simp; omega)]
    refine this.trans ?_
    have e2 : (List.range' 0 y).map (rowB s rs g gs W) ++ [rowB s rs g gs W y] = (List.range' 0 (y + 1)).map (rowB s rs g gs W) := by
      rw [List.range'_concat, List.map_append]; simp
    rw [e2]
    exact ih (y + 1) _ (by omega) (by omega)
include hs hrs hgs hW hg in
theorem implMap_l1 (out : List ByteArray) (y : Nat) (hy : y < 8) (ho : out.length ≤ 100) : ∀ (n x k : Nat), x + n = W → n + 2 * rs.length + s.size + gs.length + 20 ≤ k →
    impl_MapText.l1 k out (y : Int) ((List.range' 0 x).map fun i => cellB s rs g gs ((y * W + i : Nat) : Int)) ((y * W + x : Nat) : Int) W H s a b c z rs d e ws f g l m ways js gs W H s = impl_MapText.l0 (k - n - 1) (out ++ [rowB s rs g gs W y]) ((y + 1 : Nat) : Int) W H s a b c z rs d e ws f g l m ways js gs W H s := by
  intro n
  have hyW : y * W ≤ 64 := Nat.mul_le_mul (show y ≤ 8 by omega) hW
  have hyW1 : (y + 1) * W = y * W + W := Nat.succ_mul y W
  have e0 : wrap64 (wrap64 ((y : Int) + 1) * (W : Int)) = ((y * W + W : Nat) : Int) := by
    rw [wnat (by omega), ← Int.natCast_mul, hyW1, w64 (by omega) (by omega)]
  induction n with
  | zero =>
    intro x k hx hk
    obtain ⟨k, rfl⟩ := ksucc (show 0 < k by omega)
    have e : x = W := by omega
    subst e
    rw [impl_MapText.l1, e0, if_neg (by omega), if_pos (by omega), wnat (by omega)]
    rfl
  | succ n ih =>
    intro x k hx hk
    obtain ⟨k, rfl⟩ := ksucc (show 0 < k by omega)
    rw [impl_MapText.l1, e0, if_pos (by omega)]
    clear e0
    have hlx : ((List.range' 0 x).map fun i => cellB s rs g gs ((y * W + i : Nat) : Int)).length = x := by simp
    rw [implMark_ev W H s a b c z rs d e ws f g l m ways js gs hs hrs hgs hg _ k (by omega), Option.bind_some, if_pos (by rw [hlx]; omega), wnat (by omega)]
    have e2 : ((List.range' 0 x).map fun i => cellB s rs g gs ((y * W + i : Nat) : Int)) ++ [cellB s rs g gs ((y * W + x : Nat) : Int)] = (List.range' 0 (x + 1)).map fun i => cellB s rs g gs ((y * W + i : Nat) : Int) := by
      rw [List.range'_concat, List.map_append]; simp
    have e3 : ((y * W + x + 1 : Nat) : Int) = ((y * W + (x + 1) : Nat) : Int) := by omega
    rw [e2, e3, ih (x + 1) k (by omega) (by omega)]
    congr 1
    omega
include hs hrs hgs hW hH hg in
theorem implMap_l0 : ∀ (n y k : Nat), y + n = H → n * 20 + 2 * rs.length + s.size + gs.length + 60 ≤ k →
    impl_MapText.l0 k ((List.range' 0 y).map (rowB s rs g gs W)) (y : Int) W H s a b c z rs d e ws f g l m ways js gs W H s = some ((List.range' 0 H).map (rowB s rs g gs W)) := by
  intro n
  induction n with
  | zero =>
    intro y k hy hk
    obtain ⟨k, rfl⟩ := ksucc (show 0 < k by omega)
    have e : y = H := by omega
    subst e
    rw [impl_MapText.l0, if_neg (by omega)]
  | succ n ih =>
    intro y k hy hk
    obtain ⟨k, rfl⟩ := ksucc (show 0 < k by omega)
    have hyW : y * W ≤ 64 := Nat.mul_le_mul (show y ≤ 8 by omega) hW
    have := implMap_l1 W H s a b c z rs d e ws f g l m ways js gs hs hrs hgs hW hg ((List.range' 0 y).map (rowB s rs g gs W)) y (by omega) (by simp; omega) W 0 k (by omega) (by omega)
    rw [impl_MapText.l0, if_pos (by omega), ← Int.natCast_mul, w64 (by omega) (by omega)]
    rw [Nat.add_zero] at this
    refine this.trans ?_
    have e2 : (List.range' 0 y).map (rowB s rs g gs W) ++ [rowB s rs g gs W y] = (List.range' 0 (y + 1)).map (rowB s rs g gs W) := by
      rw [List.range'_concat, List.map_append]; simp
    rw [e2]
    exact ih (y + 1) _ (by omega) (by omega)
end
theorem map_same (w h : Int) (s : ByteArray) (a b c z : Int) (rs : List S89) (d e : Int) (ws : List Int) (f : Int) (g : Bool) (l m : Int) (ways : List S159) (js : List S103) (gs : List Int)
    (hs : s.size ≤ 1048576) (hrs : rs.length ≤ 1048576) (hgs : gs.length ≤ 1048576) : ∃ r : List ByteArray, r.length ≤ 8 ∧ (∀ k, 5000000 ≤ k → spec_MapText.f k w h s a b c z rs d e ws f g l m ways js gs = some r) ∧ ∀ k, 5000000 ≤ k → impl_MapText.f k w h s a b c z rs d e ws f g l m ways js gs = some r := by
  cases hg : gridB w h s
  · refine ⟨[], by simp, fun k hk => ?_, fun k hk => ?_⟩
    · obtain ⟨k, rfl⟩ := ksucc (show 0 < k by omega)
      obtain ⟨k, rfl⟩ := ksucc (show 0 < k by omega)
      unfold spec_MapText.f
      rw [spec_MapText.l0, specGrid_ev w h s hs _ (by omega), hg, Option.bind_some, if_neg (by simp), spec_MapText.j1, if_neg (by simp)]
    · unfold impl_MapText.f
      rw [implGrid_ev w h s hs _ (by omega), hg, Option.bind_some, if_neg (by simp)]
  · have hb : ((1 ≤ w ∧ w ≤ 8) ∧ (1 ≤ h ∧ h ≤ 8)) := by
      have := hg
      unfold gridB at this
      simp only [Bool.and_eq_true, decide_eq_true_eq] at this
      exact this.1.1
    obtain ⟨W, rfl⟩ : ∃ W : Nat, w = W := ⟨w.toNat, by omega⟩
    obtain ⟨H, rfl⟩ : ∃ H : Nat, h = H := ⟨h.toNat, by omega⟩
    refine ⟨(List.range' 0 H).map (rowB s rs g gs W), by simp; omega, fun k hk => ?_, fun k hk => ?_⟩
    · exact specMap_l0 W H s a b c z rs d e ws f g l m ways js gs hs hrs hgs (by omega) (by omega) hg H 0 k (by omega) (by omega)
    · unfold impl_MapText.f
      rw [implGrid_ev _ _ s hs _ (by omega), hg, Option.bind_some, if_pos rfl]
      exact implMap_l0 W H s a b c z rs d e ws f g l m ways js gs hs hrs hgs (by omega) (by omega) hg H 0 k (by omega) (by omega)
theorem FnExactMapText : OpFnExactMapText.Pure := by
  rintro ⟨⟨⟨w, h, s⟩, a, b, c, z⟩, rs, ⟨d, e, ws⟩, f, g, ⟨l, m, ways⟩, js, gs⟩ ⟨⟨⟨_, _, hs⟩, _⟩, ⟨hrs, _⟩, ⟨_, _, hws, _⟩, _, _, ⟨_, _, hwz, hww⟩, ⟨hjs, _⟩, hgs, _⟩
  simp only at hs hrs hws hwz hww hjs hgs
  obtain ⟨K, hK1, hK⟩ : ∃ K, ways.length < K ∧ 5000001 < K := ⟨ways.length + 5000002, by omega, by omega⟩
  refine ⟨K + 1, ?_⟩
  unfold laws_FnExactMapText.f
  obtain ⟨t, e1, e2⟩ := szYard_ev (K + 1) w h s a b c z rs d e ws f g l m ways js gs hs hrs hws hwz (fun x hx => (hww x hx).1) hjs hgs (by omega)
  simp only [e1, Option.bind_some]
  by_cases ht : t < 0
  · rw [if_pos ht]
  obtain ⟨b0, b1, b2, b3, b4, b5, b6⟩ := e2 (by omega)
  obtain ⟨r, hr, sp, ip⟩ := map_same w h s a b c z (rs.map cvRobot) d e ws f g l m (ways.map cvWay) (js.map cvJob) gs b0 (by simpa using b1) b6
  obtain ⟨y, my1, my2⟩ := markYardA (K + 1) w h s a b c z (rs.map cvRobot) d e ws f g l m (ways.map cvWay) (js.map cvJob) gs (by simpa using b1) b2 (by simpa using b3) (by intro x hx; obtain ⟨y, hy, rfl⟩ := List.mem_map.1 hx; exact b4 y hy) (by simpa using b5) b6 (by omega)
  obtain ⟨ys, ms, hs2⟩ := markHeldStringS_ev r (by omega)
  have eqy := eqYard_ev (K + 1) w h s a b c z (rs.map cvRobot) d e ws f g l m (ways.map cvWay) (js.map cvJob) gs (by simpa using b1) b2 (by simpa using b3) (by intro x hx; obtain ⟨y, hy, rfl⟩ := List.mem_map.1 hx; exact b4 y hy) (by simpa using b5) b6 (by omega)
  have ty := fun k hk => toYard_ev k w h s a b c z rs d e ws f g l m ways js gs b1 b2 b3 b4 b5 b6 hk
  rw [if_neg ht, ty _ (by omega)]
  simp only [Option.bind_some]
  rw [sp (K + 1) (by omega)]
  simp only [Option.bind_some]
  rw [ip (K + 1) (by omega)]
  simp only [Option.bind_some]
  rw [eqStringS_ev r (by omega) (K + 1) (by omega)]
  simp only [Option.bind_some, if_true]
  rw [eqy]
  simp only [Option.bind_some, if_true]
  rw [my1]
  simp only [Option.bind_some]
  rw [if_neg (by omega)]
  simp only [Bool.not_true]
  rw [laws_FnExactMapText.j0, if_neg (by simp), ms K (by omega)]
  simp only [Option.bind_some]
  rw [hs2 K (by omega)]
  simp only [Option.bind_some]
  rw [if_neg (by omega), if_pos trivial, ty K (by omega)]
  simp only [Option.bind_some]
  rw [ip K (by omega)]
  simp only [Option.bind_some]
  rw [eqStringS_ev r (by omega) K (by omega)]
  simp only [Option.bind_some, if_true]
  rw [if_neg (by omega)]

end Go.Proofs.Ytomchkdbhcakoaa.Pure
