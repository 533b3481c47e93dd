/- The law FnExactJobsOk over numbers and lists alone: it answers true for every input; no condition beside the bounds of the kinds. -/
import Derived.Test.YtfinjkjnoobbjaaMFnExactJobsOkx
import Derived.Test.YtfinjkjnoobbjaaOpFnExactJobsOk
namespace Go.Proofs.Ytfinjkjnoobbjaa.Pure
open Go.RowKit Go.Proofs.Ytfinjkjnoobbjaa.MFnExactJobsOk Go.Proofs.YtfinjkjnoobbjaaW.PrintWords Go.Proofs.YtfinjkjnoobbjaaW.PrintLast Go.Proofs.Ytfinjkjnoobbjaa
set_option linter.unusedVariables false
set_option linter.unusedSimpArgs false

theorem w64 {x : Int} (h1 : -9223372036854775808 ≤ x) (h2 : x ≤ 9223372036854775807) : wrap64 x = x := by unfold wrap64; omega
theorem wnat {i : Nat} (h : i < 4611686018427387904) : wrap64 ((i : Int) + 1) = ((i + 1 : Nat) : Int) := by unfold wrap64; omega
theorem ksucc {k d : Nat} (h : d < k) : ∃ m, k = m + 1 := ⟨k - 1, by omega⟩

theorem fill_step {α β : Type} (f : α → β) (z : β) (xs : List α) (i d : Nat) (h : i + (d + 1) = xs.length) (hi : i < xs.length) :
    ((xs.take i).map f ++ List.replicate (d + 1) z).set i (f xs[i]) = (xs.take (i + 1)).map f ++ List.replicate d z := by
  have hl : ((xs.take i).map f).length = i := by simp; omega
  rw [List.replicate_succ, List.set_append_right _ _ (by omega), hl, Nat.sub_self, List.set_cons_zero, List.take_succ_eq_append_getElem hi, List.map_append]
  simp

/-! Robots, made of what came in -/
def cvRobot (y : S153) : S84 := ⟨y.f0, y.f1, y.f2, y.f3⟩
theorem rdLRobot (xs : List S153) (i : Nat) (h : i < xs.length) : rd_T153 xs (i : Int) = xs[i] := by simp [rd_T153, List.getD, h]
theorem toRobotS_l (xs : List S153) (hb : xs.length ≤ 1048576) : ∀ (d i k : Nat), i + d = xs.length → d < k →
    laws_toRobotS.l0 k xs ((xs.take i).map cvRobot ++ List.replicate d z84) (i : Int) = some (xs.map cvRobot) := by
  intro d
  induction d with
  | zero =>
    intro i k h hk
    obtain ⟨k, rfl⟩ := ksucc hk
    simp only [laws_toRobotS.l0]
    rw [if_neg (by omega), List.take_of_length_le (by omega)]
    simp
  | succ d ih =>
    intro i k h hk
    obtain ⟨k, rfl⟩ := ksucc hk
    have hi : i < xs.length := by omega
    simp only [laws_toRobotS.l0, laws_toRobot.f, Option.bind_some]
    rw [if_pos (by omega), if_pos (by omega), if_pos (by simp; omega), rdLRobot xs i hi, wnat (by omega)]
    have e : (i : Int).toNat = i := by simp
    rw [e]
    exact (congrArg (fun z => laws_toRobotS.l0 k xs z ((i + 1 : Nat) : Int)) (fill_step cvRobot z84 xs i d h hi)).trans (ih (i + 1) k (by omega) (by omega))
theorem toRobotS_ev (xs : List S153) (hb : xs.length ≤ 1048576) (k : Nat) (hk : xs.length < k) : laws_toRobotS.f k xs = some (xs.map cvRobot) := by
  unfold laws_toRobotS.f
  rw [if_pos (by omega), if_pos (by omega)]
  have := toRobotS_l xs hb xs.length 0 k (by omega) hk
  simpa using this

/-! Jobs, made of what came in -/
def cvJob (y : S156) : S141 := ⟨y.f0, y.f1, y.f2⟩
theorem rdLJob (xs : List S156) (i : Nat) (h : i < xs.length) : rd_T156 xs (i : Int) = xs[i] := by simp [rd_T156, List.getD, h]
theorem toJobS_l (xs : List S156) (hb : xs.length ≤ 1048576) : ∀ (d i k : Nat), i + d = xs.length → d < k →
    laws_toJobS.l0 k xs ((xs.take i).map cvJob ++ List.replicate d z141) (i : Int) = some (xs.map cvJob) := by
  intro d
  induction d with
  | zero =>
    intro i k h hk
    obtain ⟨k, rfl⟩ := ksucc hk
    simp only [laws_toJobS.l0]
    rw [if_neg (by omega), List.take_of_length_le (by omega)]
    simp
  | succ d ih =>
    intro i k h hk
    obtain ⟨k, rfl⟩ := ksucc hk
    have hi : i < xs.length := by omega
    simp only [laws_toJobS.l0, laws_toJob.f, Option.bind_some]
    rw [if_pos (by omega), if_pos (by omega), if_pos (by simp; omega), rdLJob xs i hi, wnat (by omega)]
    have e : (i : Int).toNat = i := by simp
    rw [e]
    exact (congrArg (fun z => laws_toJobS.l0 k xs z ((i + 1 : Nat) : Int)) (fill_step cvJob z141 xs i d h hi)).trans (ih (i + 1) k (by omega) (by omega))
theorem toJobS_ev (xs : List S156) (hb : xs.length ≤ 1048576) (k : Nat) (hk : xs.length < k) : laws_toJobS.f k xs = some (xs.map cvJob) := by
  unfold laws_toJobS.f
  rw [if_pos (by omega), if_pos (by omega)]
  have := toJobS_l xs hb xs.length 0 k (by omega) hk
  simpa using this

/-! lists of numbers, made of what came in -/
theorem rdT (xs : List Int) (i : Nat) (h : i < xs.length) : rd xs (i : Int) = xs[i] := by simp [rd, List.getD, h]
theorem toIntS_l (xs : List Int) (hb : xs.length ≤ 1048576) : ∀ (d i k : Nat), i + d = xs.length → d < k →
    laws_toIntS.l0 k xs ((xs.take i).map id ++ List.replicate d 0) (i : Int) = some xs := by
  intro d
  induction d with
  | zero =>
    intro i k h hk
    obtain ⟨k, rfl⟩ := ksucc hk
    simp only [laws_toIntS.l0]
    rw [if_neg (by omega), List.take_of_length_le (by omega)]
    simp
  | succ d ih =>
    intro i k h hk
    obtain ⟨k, rfl⟩ := ksucc hk
    have hi : i < xs.length := by omega
    simp only [laws_toIntS.l0]
    rw [if_pos (by omega), if_pos (by omega), if_pos (by simp; omega), rdT xs i hi, wnat (by omega)]
    have e : (i : Int).toNat = i := by simp
    rw [e]
    exact (congrArg (fun z => laws_toIntS.l0 k xs z ((i + 1 : Nat) : Int)) (fill_step id 0 xs i d h hi)).trans (ih (i + 1) k (by omega) (by omega))
theorem toIntS_ev (xs : List Int) (hb : xs.length ≤ 1048576) (k : Nat) (hk : xs.length < k) : laws_toIntS.f k xs = some xs := by
  unfold laws_toIntS.f
  rw [if_pos (by omega), if_pos (by omega)]
  have := toIntS_l xs hb xs.length 0 k (by omega) hk
  simpa using this

/-! ways, made of what came in -/
def cvWay (y : S185) : S143 := ⟨y.f0⟩
theorem rdLWay (xs : List S185) (i : Nat) (h : i < xs.length) : rd_T185 xs (i : Int) = xs[i] := by simp [rd_T185, List.getD, h]
theorem toWayS_l (xs : List S185) (hb : xs.length ≤ 1048576) (hw : ∀ x ∈ xs, x.f0.length ≤ 1048576) : ∀ (d i k : Nat), i + d = xs.length → d + 1048577 < k →
    laws_toWayS.l0 k xs ((xs.take i).map cvWay ++ List.replicate d z143) (i : Int) = some (xs.map cvWay) := by
  intro d
  induction d with
  | zero =>
    intro i k h hk
    obtain ⟨k, rfl⟩ := ksucc (show 0 < k by omega)
    simp only [laws_toWayS.l0]
    rw [if_neg (by omega), List.take_of_length_le (by omega)]
    simp
  | succ d ih =>
    intro i k h hk
    obtain ⟨k, rfl⟩ := ksucc (show 0 < k by omega)
    have hi : i < xs.length := by omega
    have hwi := hw _ (List.getElem_mem hi)
    simp only [laws_toWayS.l0]
    rw [if_pos (by omega), if_pos (by omega), rdLWay xs i hi]
    unfold laws_toWay.f
    rw [toIntS_ev _ hwi k (by omega)]
    simp only [Option.bind_some]
    rw [if_pos (by simp; omega), wnat (by omega)]
    have e : (i : Int).toNat = i := by simp
    rw [e]
    exact (congrArg (fun z => laws_toWayS.l0 k xs z ((i + 1 : Nat) : Int)) (fill_step cvWay z143 xs i d h hi)).trans (ih (i + 1) k (by omega) (by omega))
theorem toWayS_ev (xs : List S185) (hb : xs.length ≤ 1048576) (hw : ∀ x ∈ xs, x.f0.length ≤ 1048576) (k : Nat) (hk : xs.length + 1048577 < k) : laws_toWayS.f k xs = some (xs.map cvWay) := by
  unfold laws_toWayS.f
  rw [if_pos (by omega), if_pos (by omega)]
  have := toWayS_l xs hb hw xs.length 0 k (by omega) hk
  simpa using this

/-! the size of a yard -/
theorem rdZWay (xs : List S185) (i : Nat) (h : i < xs.length) : rd_T185 xs (i : Int) = xs[i] := by simp [rd_T185, List.getD, h]
theorem szWayS_l (xs : List S185) (hb : xs.length ≤ 1048576) (hw : ∀ x ∈ xs, x.f0.length * 8 ≤ 140737488351232) : ∀ (d i k : Nat) (b : Int), i + d = xs.length → d < k → 0 ≤ b → b ≤ 1048576 →
    ∃ t, laws_szWayS.l0 k xs b (i : Int) = some t ∧ t ≤ b ∧ (0 ≤ t → ∀ j (hj : j < xs.length), i ≤ j → xs[j].f0.length ≤ 1048576) := by
  intro d
  induction d with
  | zero =>
    intro i k b h hk h0 h1
    obtain ⟨k, rfl⟩ := ksucc hk
    rw [laws_szWayS.l0, if_neg (by omega)]
    exact ⟨b, rfl, by omega, fun _ j hj hij => by omega⟩
  | succ d ih =>
    intro i k b h hk h0 h1
    obtain ⟨k, rfl⟩ := ksucc hk
    have hi : i < xs.length := by omega
    have hwi := hw _ (List.getElem_mem hi)
    rw [laws_szWayS.l0, if_pos (by omega), if_pos (by omega), rdZWay xs i hi]
    unfold laws_szWay.f laws_szIntS.f
    rw [w64 (x := b - _) (by omega) (by omega), wnat (i := i) (by omega)]
    by_cases h2 : b - (xs[i].f0.length : Int) < 0
    · rw [if_pos h2]
      exact ⟨-1, rfl, by omega, fun h => by omega⟩
    · rw [if_neg h2]
      simp only [Option.bind_some]
      rw [if_neg h2]
      simp only [Option.bind_some]
      rw [if_neg h2]
      obtain ⟨t, e, h3, h4⟩ := ih (i + 1) k (b - (xs[i].f0.length : Int)) (by omega) (by omega) (by omega) (by omega)
      refine ⟨t, e, by omega, fun ht j hj hij => ?_⟩
      by_cases hij' : i = j
      · subst hij'; omega
      · exact h4 ht j hj (by omega)
theorem szWayS_ev (xs : List S185) (hz : xs.length * 24 ≤ 140737488351232) (hw : ∀ x ∈ xs, x.f0.length * 8 ≤ 140737488351232) (k : Nat) (hk : xs.length < k) (b : Int) (h0 : 0 ≤ b) (h1 : b ≤ 1048576) :
    ∃ t, laws_szWayS.f k xs b = some t ∧ t ≤ b ∧ (0 ≤ t → xs.length ≤ 1048576 ∧ ∀ x ∈ xs, x.f0.length ≤ 1048576) := by
  unfold laws_szWayS.f
  rw [w64 (by omega) (by omega)]
  by_cases h2 : b - (xs.length : Int) < 0
  · rw [if_pos h2]
    exact ⟨-1, rfl, by omega, fun h => by omega⟩
  · rw [if_neg h2]
    obtain ⟨t, e, h3, h4⟩ := szWayS_l xs (by omega) hw xs.length 0 k (b - xs.length) (by omega) hk (by omega) (by omega)
    refine ⟨t, e, by omega, fun ht => ⟨by omega, fun x hx => ?_⟩⟩
    obtain ⟨j, hj, rfl⟩ := List.mem_iff_getElem.1 hx
    exact h4 ht j hj (by omega)
theorem szYard_ev (k : Nat) (w h : Int) (s : ByteArray) (a b c z : Int) (rs : List S153) (d e : Int) (ws : List Int) (f : Int) (g : Bool) (l m : Int) (ways : List S185) (js : List S156) (gs : List Int)
    (hs : s.size ≤ 140737488351232) (hrs : rs.length * 32 ≤ 140737488351232) (hws : ws.length * 8 ≤ 140737488351232) (hwz : ways.length * 24 ≤ 140737488351232) (hww : ∀ x ∈ ways, x.f0.length * 8 ≤ 140737488351232) (hjs : js.length * 24 ≤ 140737488351232) (hgs : gs.length * 8 ≤ 140737488351232) (hk : ways.length < k) :
    ∃ t, laws_szYard.f k w h s a b c z rs d e ws f g l m ways js gs 1048576 = some t ∧
      (0 ≤ t → s.size ≤ 1048576 ∧ rs.length ≤ 1048576 ∧ ws.length ≤ 1048576 ∧ ways.length ≤ 1048576 ∧ (∀ x ∈ ways, x.f0.length ≤ 1048576) ∧ js.length ≤ 1048576 ∧ gs.length ≤ 1048576) := by
  unfold laws_szYard.f laws_szSetup.f laws_szGrid.f laws_szRobotS.f laws_szWindow.f laws_szPlan.f laws_szJobS.f laws_szIntS.f
  rw [w64 (x := 1048576 - _) (by omega) (by omega)]
  have bad : ∀ (o : Option Int) (P : Prop), o = some (-1) → ∃ t, o = some t ∧ (0 ≤ t → P) := fun o P e => ⟨-1, e, fun h => by omega⟩
  by_cases h1 : 1048576 - (s.size : Int) < 0
  · refine bad _ _ ?_; simp [h1]
  simp only [if_neg h1, Option.bind_some]
  rw [w64 (x := 1048576 - (s.size : Int) - _) (by omega) (by omega)]
  by_cases h2 : 1048576 - (s.size : Int) - (rs.length : Int) < 0
  · refine bad _ _ ?_; simp [h2]
  simp only [if_neg h2, Option.bind_some]
  rw [w64 (x := 1048576 - (s.size : Int) - (rs.length : Int) - _) (by omega) (by omega)]
  by_cases h3 : 1048576 - (s.size : Int) - (rs.length : Int) - (ws.length : Int) < 0
  · refine bad _ _ ?_; simp [h3]
  simp only [if_neg h3, Option.bind_some]
  obtain ⟨t, e1, e2, e3⟩ := szWayS_ev ways hwz hww k hk (1048576 - (s.size : Int) - (rs.length : Int) - (ws.length : Int)) (by omega) (by omega)
  rw [e1]
  simp only [Option.bind_some]
  by_cases h4 : t < 0
  · refine bad _ _ ?_; simp [h4]
  simp only [if_neg h4, Option.bind_some]
  obtain ⟨e4, e5⟩ := e3 (by omega)
  rw [w64 (x := t - _) (by omega) (by omega)]
  by_cases h5 : t - (js.length : Int) < 0
  · refine bad _ _ ?_; simp [h5]
  simp only [if_neg h5, Option.bind_some]
  rw [w64 (x := t - (js.length : Int) - _) (by omega) (by omega)]
  by_cases h6 : t - (js.length : Int) - (gs.length : Int) < 0
  · refine bad _ _ ?_; simp [h6]
  simp only [if_neg h6, Option.bind_some]
  exact ⟨_, rfl, fun _ => ⟨by omega, by omega, by omega, e4, e5, by omega, by omega⟩⟩

/-! a yard, made of what came in -/
theorem toYard_ev (k : Nat) (w h : Int) (s : ByteArray) (a b c z : Int) (rs : List S153) (d e : Int) (ws : List Int) (f : Int) (g : Bool) (l m : Int) (ways : List S185) (js : List S156) (gs : List Int)
    (hrs : rs.length ≤ 1048576) (hws : ws.length ≤ 1048576) (hwz : ways.length ≤ 1048576) (hww : ∀ x ∈ ways, x.f0.length ≤ 1048576) (hjs : js.length ≤ 1048576) (hgs : gs.length ≤ 1048576) (hk : 2097153 < k) :
    laws_toYard.f k w h s a b c z rs d e ws f g l m ways js gs = some (w, h, s, a, b, c, z, rs.map cvRobot, d, e, ws, f, g, l, m, ways.map cvWay, js.map cvJob, gs) := by
  unfold laws_toYard.f laws_toSetup.f laws_toGrid.f laws_toWindow.f laws_toPlan.f
  rw [toRobotS_ev rs hrs k (by omega), toIntS_ev ws hws k (by omega), toWayS_ev ways hwz hww k (by omega), toJobS_ev js hjs k (by omega), toIntS_ev gs hgs k (by omega)]
  rfl

/-! Robots, compared -/
theorem rdIRobot (xs : List S84) (i : Nat) (h : i < xs.length) : rd_T84 xs (i : Int) = xs[i] := by simp [rd_T84, List.getD, h]
theorem eqRobot_refl (x0 : Int) (x1 : Int) (x2 : Int) (x3 : Bool) : laws_eqRobot.f x0 x1 x2 x3 x0 x1 x2 x3 = some true := by simp [laws_eqRobot.f]
theorem eqRobotS_l (xs : List S84) (hb : xs.length ≤ 1048576) : ∀ (d i k : Nat), i + d = xs.length → d < k → laws_eqRobotS.l0 k xs xs (i : Int) = some true := by
  intro d
  induction d with
  | zero =>
    intro i k h hk
    obtain ⟨k, rfl⟩ := ksucc hk
    simp only [laws_eqRobotS.l0]
    rw [if_neg (by omega)]
  | succ d ih =>
    intro i k h hk
    obtain ⟨k, rfl⟩ := ksucc hk
    simp only [laws_eqRobotS.l0, eqRobot_refl, Option.bind_some]
    rw [if_pos (by omega), if_pos (by omega), if_pos (by omega), if_pos trivial, wnat (by omega)]
    exact ih (i + 1) k (by omega) (by omega)
theorem eqRobotS_ev (xs : List S84) (hb : xs.length ≤ 1048576) (k : Nat) (hk : xs.length < k) : laws_eqRobotS.f k xs xs = some true := by
  unfold laws_eqRobotS.f
  rw [if_pos rfl]
  exact eqRobotS_l xs hb xs.length 0 k (by omega) hk

/-! Jobs, compared -/
theorem rdIJob (xs : List S141) (i : Nat) (h : i < xs.length) : rd_T141 xs (i : Int) = xs[i] := by simp [rd_T141, List.getD, h]
theorem eqJob_refl (x0 : Int) (x1 : Int) (x2 : Bool) : laws_eqJob.f x0 x1 x2 x0 x1 x2 = some true := by simp [laws_eqJob.f]
theorem eqJobS_l (xs : List S141) (hb : xs.length ≤ 1048576) : ∀ (d i k : Nat), i + d = xs.length → d < k → laws_eqJobS.l0 k xs xs (i : Int) = some true := by
  intro d
  induction d with
  | zero =>
    intro i k h hk
    obtain ⟨k, rfl⟩ := ksucc hk
    simp only [laws_eqJobS.l0]
    rw [if_neg (by omega)]
  | succ d ih =>
    intro i k h hk
    obtain ⟨k, rfl⟩ := ksucc hk
    simp only [laws_eqJobS.l0, eqJob_refl, Option.bind_some]
    rw [if_pos (by omega), if_pos (by omega), if_pos (by omega), if_pos trivial, wnat (by omega)]
    exact ih (i + 1) k (by omega) (by omega)
theorem eqJobS_ev (xs : List S141) (hb : xs.length ≤ 1048576) (k : Nat) (hk : xs.length < k) : laws_eqJobS.f k xs xs = some true := by
  unfold laws_eqJobS.f
  rw [if_pos rfl]
  exact eqJobS_l xs hb xs.length 0 k (by omega) hk

/-! lists of numbers, compared -/
theorem rdN (xs : List Int) (i : Nat) (h : i < xs.length) : rd xs (i : Int) = xs[i] := by simp [rd, List.getD, h]
theorem eqIntS_l (xs : List Int) (hb : xs.length ≤ 16777216) : ∀ (d i k : Nat), i + d = xs.length → d < k → laws_eqIntS.l0 k xs xs (i : Int) = some true := by
  intro d
  induction d with
  | zero =>
    intro i k h hk
    obtain ⟨k, rfl⟩ := ksucc hk
    rw [laws_eqIntS.l0, if_neg (by omega)]
  | succ d ih =>
    intro i k h hk
    obtain ⟨k, rfl⟩ := ksucc hk
    rw [laws_eqIntS.l0, if_pos (by omega), if_pos (by omega), if_pos (by omega), if_pos rfl, wnat (by omega)]
    exact ih (i + 1) k (by omega) (by omega)
theorem eqIntS_ev (xs : List Int) (hb : xs.length ≤ 16777216) (k : Nat) (hk : xs.length < k) : laws_eqIntS.f k xs xs = some true := by
  unfold laws_eqIntS.f
  rw [if_pos rfl]
  exact eqIntS_l xs hb xs.length 0 k (by omega) hk

/-! ways, compared -/
theorem rdIWay (xs : List S143) (i : Nat) (h : i < xs.length) : rd_T143 xs (i : Int) = xs[i] := by simp [rd_T143, List.getD, h]
theorem eqWayS_l (xs : List S143) (hb : xs.length ≤ 1048576) (hw : ∀ x ∈ xs, x.f0.length ≤ 1048576) : ∀ (d i k : Nat), i + d = xs.length → d + 1048577 < k → laws_eqWayS.l0 k xs xs (i : Int) = some true := by
  intro d
  induction d with
  | zero =>
    intro i k h hk
    obtain ⟨k, rfl⟩ := ksucc (show 0 < k by omega)
    simp only [laws_eqWayS.l0]
    rw [if_neg (by omega)]
  | succ d ih =>
    intro i k h hk
    obtain ⟨k, rfl⟩ := ksucc (show 0 < k by omega)
    have hi : i < xs.length := by omega
    have hwi := hw _ (List.getElem_mem hi)
    simp only [laws_eqWayS.l0]
    rw [if_pos (by omega), if_pos (by omega), if_pos (by omega), rdIWay xs i hi]
    unfold laws_eqWay.f
    rw [eqIntS_ev _ (by omega) k (by omega)]
    simp only [Option.bind_some]
    rw [if_pos trivial]
    simp only [Option.bind_some]
    rw [if_pos trivial, wnat (by omega)]
    exact ih (i + 1) k (by omega) (by omega)
theorem eqWayS_ev (xs : List S143) (hb : xs.length ≤ 1048576) (hw : ∀ x ∈ xs, x.f0.length ≤ 1048576) (k : Nat) (hk : xs.length + 1048577 < k) : laws_eqWayS.f k xs xs = some true := by
  unfold laws_eqWayS.f
  rw [if_pos rfl]
  exact eqWayS_l xs hb hw xs.length 0 k (by omega) hk

/-! a yard, compared with itself -/
theorem eqYard_ev (k : Nat) (w h : Int) (s : ByteArray) (a b c z : Int) (rs : List S84) (d e : Int) (ws : List Int) (f : Int) (g : Bool) (l m : Int) (ways : List S143) (js : List S141) (gs : List Int)
    (hrs : rs.length ≤ 1048576) (hws : ws.length ≤ 1048576) (hwz : ways.length ≤ 1048576) (hww : ∀ x ∈ ways, x.f0.length ≤ 1048576) (hjs : js.length ≤ 1048576) (hgs : gs.length ≤ 1048576) (hk : 2097153 < k) :
    laws_eqYard.f k w h s a b c z rs d e ws f g l m ways js gs w h s a b c z rs d e ws f g l m ways js gs = some true := by
  unfold laws_eqYard.f laws_eqSetup.f laws_eqGrid.f laws_eqWindow.f laws_eqPlan.f
  rw [eqRobotS_ev rs hrs k (by omega), eqIntS_ev ws (by omega) k (by omega), eqWayS_ev ways hwz hww k (by omega), eqJobS_ev js hjs k (by omega), eqIntS_ev gs (by omega) k (by omega)]
  simp

/-! the layer of a yard -/
open Go.Proofs.Ytfinjkjnoobbjaa.MyHof in
theorem layer_tail (js : List S141) (w h : Int) (s : ByteArray) (a b c z : Int) (rs : List S84) (d e : Int) (ws : List Int) (f : Int) (g : Bool) (l m : Int) (ways : List S143) (gs : List Int) (hb : js.length ≤ 1048576) :
    ∀ (n i k : Nat) (y : S141), i + n = js.length → 0 < i → n < k → spec_LayerOf.l0 k y.f1 (i : Int) w h s a b c z rs d e ws f g l m ways js gs = some (((js.drop i).foldl (fun m y => if y.f1 < m.f1 then y else m) y).f1) := by
  intro n
  induction n with
  | zero =>
    intro i k y hi _ hk
    obtain ⟨k, rfl⟩ := ksucc hk
    rw [spec_LayerOf.l0, if_neg (by omega), List.drop_eq_nil_of_le (by omega)]
    rfl
  | succ n ih =>
    intro i k y hi h0 hk
    obtain ⟨k, rfl⟩ := ksucc hk
    have hij : i < js.length := by omega
    rw [spec_LayerOf.l0, if_pos (by omega), if_neg (by omega), if_pos (by omega), rdIJob js i hij, wnat (i := i) (by omega), List.drop_eq_getElem_cons hij, List.foldl_cons]
    by_cases h1 : js[i].f1 < y.f1
    · rw [if_pos h1, if_pos h1]
      exact ih (i + 1) k js[i] (by omega) (by omega) (by omega)
    · rw [if_neg h1, if_neg h1]
      exact ih (i + 1) k y (by omega) (by omega) (by omega)
open Go.Proofs.Ytfinjkjnoobbjaa.MyHof in
theorem layer_same (js : List S141) (w h : Int) (s : ByteArray) (a b c z : Int) (rs : List S84) (d e : Int) (ws : List Int) (f : Int) (g : Bool) (l m : Int) (ways : List S143) (gs : List Int) (hb : js.length ≤ 1048576) (k : Nat) (hk : js.length < k) :
    spec_LayerOf.f k w h s a b c z rs d e ws f g l m ways js gs = impl_LayerOf.f w h s a b c z rs d e ws f g l m ways js gs := by
  unfold spec_LayerOf.f impl_LayerOf.f
  obtain ⟨k, rfl⟩ := ksucc (show 0 < k by omega)
  cases js with
  | nil => rw [spec_LayerOf.l0, if_neg (by simp)]; rfl
  | cons x t =>
    have hl : (x :: t).length = t.length + 1 := rfl
    have e1 : rd_T141 (x :: t) 0 = x := rfl
    have := layer_tail (x :: t) w h s a b c z rs d e ws f g l m ways gs hb t.length 1 k x (by omega) (by omega) (by omega)
    rw [spec_LayerOf.l0, if_pos (by omega), if_pos rfl, if_pos (by omega), e1, show wrap64 (0 + 1) = ((1 : Nat) : Int) from w64 (by omega) (by omega), this, if_neg (by omega)]
    rfl

/-! the jobs of a plan -/
open Go.Proofs.Ytfinjkjnoobbjaa.MyHof in
theorem idx_find {α : Type} (p : α → Bool) : ∀ l : List α, (idxOf p l = -1 ∧ l.find? p = none) ∨ ∃ t : Nat, ∃ h : t < l.length, idxOf p l = (t : Int) ∧ l.find? p = some l[t]
  | [] => Or.inl ⟨rfl, rfl⟩
  | a :: l => by
    cases h : p a
    · rcases idx_find p l with ⟨e1, e2⟩ | ⟨t, ht, e1, e2⟩
      · left
        refine ⟨?_, by rw [List.find?_cons, h]; exact e2⟩
        unfold idxOf at e1 ⊢
        rw [List.findIdx?_cons, h]
        cases hf : l.findIdx? p with
        | none => rfl
        | some i => rw [hf] at e1; simp at e1
      · right
        refine ⟨t + 1, by simp; omega, ?_, by rw [List.find?_cons, h]; exact e2⟩
        unfold idxOf at e1 ⊢
        rw [List.findIdx?_cons, h]
        cases hf : l.findIdx? p with
        | none => rw [hf] at e1; simp at e1
        | some i => rw [hf] at e1; simp at e1 ⊢; omega
    · right
      exact ⟨0, by simp, by unfold idxOf; rw [List.findIdx?_cons, h]; rfl, by rw [List.find?_cons, h]; rfl⟩
open Go.Proofs.Ytfinjkjnoobbjaa.MyHof in
theorem specRobotAt_l (rs : List S84) (x : Int) (hb : rs.length ≤ 1048576) : ∀ (n i k : Nat), i + n = rs.length → n < k →
    spec_RobotAt.l0 k rs x (i : Int) = some (match (rs.drop i).findIdx? (fun r => r.f0 == x) with | some j => ((i + j : Nat) : Int) | none => -1) := by
  intro n
  induction n with
  | zero =>
    intro i k hi hk
    obtain ⟨k, rfl⟩ := ksucc hk
    rw [spec_RobotAt.l0, if_neg (by omega), List.drop_eq_nil_of_le (by omega)]
    rfl
  | succ n ih =>
    intro i k hi hk
    obtain ⟨k, rfl⟩ := ksucc hk
    have hir : i < rs.length := by omega
    rw [spec_RobotAt.l0, if_pos (by omega), if_pos (by omega), rdIRobot rs i hir, wnat (i := i) (by omega), ih (i + 1) k (by omega) (by omega), List.drop_eq_getElem_cons hir, List.findIdx?_cons]
    by_cases e : rs[i].f0 = x
    · rw [if_pos e, show (rs[i].f0 == x) = true by simpa using e]
      simp
    · rw [if_neg e, show (rs[i].f0 == x) = false by simpa using e]
      cases hf : (rs.drop (i + 1)).findIdx? (fun r => r.f0 == x) with
      | none => simp
      | some j =>
        show some ((i + 1 + j : Nat) : Int) = some ((i + (j + 1) : Nat) : Int)
        congr 2
        omega
open Go.Proofs.Ytfinjkjnoobbjaa.MyHof in
theorem specRobotAt_ev (rs : List S84) (x : Int) (hb : rs.length ≤ 1048576) (k : Nat) (hk : rs.length < k) : spec_RobotAt.f k rs x = some (idxOf (fun r => r.f0 == x) rs) := by
  have := specRobotAt_l rs x hb rs.length 0 k (by omega) hk
  rw [show ((0 : Nat) : Int) = 0 from rfl, List.drop_zero] at this
  unfold spec_RobotAt.f
  rw [this]
  unfold idxOf
  cases rs.findIdx? (fun r => r.f0 == x) <;> simp
def tailB (r : S84) (cells : List Int) (sp d : Int) (out : Bool) : Bool := (r.f1 == rd cells d) && (if out then decide (d < sp) && (r.f2 == rd cells (wrap64 (d + 1))) else r.f2 == -1)
def jobB (rs : List S84) (sp least : Int) (prev : List S141) (j : S141) (cells : List Int) : Bool :=
  match rs.find? (fun r => r.f0 == j.f0) with
  | none => false
  | some r => !r.f3 && (decide (0 ≤ j.f1) && (decide (j.f1 ≤ sp) && (!(decide (j.f1 > wrap64 (least + 1))) && (!(prev.any fun x => x.f0 == j.f0) && tailB r cells sp j.f1 j.f2))))
section
variable (w h : Int) (s : ByteArray) (a b c z : Int) (rs : List S84) (d e : Int) (ws : List Int) (f : Int) (g : Bool) (sp mv : Int) (ways : List S143) (js : List S141) (gs : List Int)
variable (hrs : rs.length ≤ 1048576) (hjs : js.length ≤ 1048576)
include hjs in
theorem specJob_l0 (i : Nat) (hi : i < js.length) (cells : List Int) (t : Nat) (ht : t < rs.length) (id dn : Int) (out : Bool) (hd0 : 0 ≤ dn) (hd1 : dn ≤ sp) (hsp : sp ≤ 20) (hc : (cells.length : Int) - 1 = sp) : ∀ (n m k : Nat), m + n = i → n < k →
    spec_l21Job.l0 k (i : Int) cells (t : Int) (m : Int) w h s a b c z rs d e ws f g sp mv ways js gs id dn out = some (!(((js.take i).drop m).any fun x => x.f0 == id) && tailB rs[t] cells sp dn out) := by
  intro n
  induction n with
  | zero =>
    intro m k hm hk
    obtain ⟨k, rfl⟩ := ksucc hk
    have e1 : wrap64 (dn + 1) = dn + 1 := w64 (by omega) (by omega)
    rw [spec_l21Job.l0, if_neg (by omega), List.drop_eq_nil_of_le (by rw [List.length_take]; omega), if_pos (by omega), if_pos (by omega), if_pos (by omega), if_pos (by omega), rdIRobot rs t ht, e1]
    unfold tailB
    rw [e1]
    by_cases h1 : rs[t].f1 = rd cells dn
    · rw [if_pos h1, show (rs[t].f1 == rd cells dn) = true by simpa using h1]
      cases out
      · rfl
      · rw [if_pos (c := (true = true)) rfl]
        by_cases h2 : dn < sp
        · rw [if_pos h2, if_pos (by omega), if_pos (by omega), decide_eq_true h2]
          rfl
        · rw [if_neg h2, decide_eq_false h2]
          rfl
    · rw [if_neg h1, show (rs[t].f1 == rd cells dn) = false by simpa using h1]
      rfl
  | succ n ih =>
    intro m k hm hk
    obtain ⟨k, rfl⟩ := ksucc hk
    have hmj : m < js.length := by omega
    have hmt : m < (js.take i).length := by rw [List.length_take]; omega
    rw [spec_l21Job.l0, if_pos (by omega), if_pos (by omega), if_pos (by omega), rdIJob js m hmj, wnat (i := m) (by omega), ih (m + 1) k (by omega) (by omega), List.drop_eq_getElem_cons hmt, List.any_cons, List.getElem_take]
    by_cases e1 : js[m].f0 = id
    · rw [if_pos e1, show (js[m].f0 == id) = true by simpa using e1]
      rfl
    · rw [if_neg e1, show (js[m].f0 == id) = false by simpa using e1]
      rfl
theorem implJob_j0 (i : Nat) (hi : i < js.length) (cells : List Int) (t : Nat) (ht : t < rs.length) (id dn : Int) (out : Bool) (hd0 : 0 ≤ dn) (hd1 : dn ≤ sp) (hsp : sp ≤ 20) (hc : (cells.length : Int) - 1 = sp) (k : Nat) :
    impl_isJob.j0 (k + 2) (i : Int) cells (t : Int) false w h s a b c z rs d e ws f g sp mv ways js gs id dn out = some (!((js.take i).any fun x => x.f0 == id) && tailB rs[t] cells sp dn out) := by
  have e1 : wrap64 (dn + 1) = dn + 1 := w64 (by omega) (by omega)
  have e2 : ((i : Int)).toNat = i := by omega
  rw [impl_isJob.j0, if_neg (by simp), if_pos (by omega), if_pos (by omega), e2]
  unfold impl_isJob_1.f
  rw [Option.bind_some]
  cases (js.take i).any fun x => x.f0 == id
  · rw [if_neg (c := (false = true)) (by simp), if_pos (by omega), if_pos (by omega), if_pos (by omega), if_pos (by omega), rdIRobot rs t ht, impl_isJob.j1, rdIRobot rs t ht, e1]
    unfold tailB
    rw [e1]
    by_cases h1 : rs[t].f1 = rd cells dn
    · rw [show (rs[t].f1 != rd cells dn) = false by simpa using h1, show (rs[t].f1 == rd cells dn) = true by simpa using h1, if_neg (c := (false = true)) (by simp)]
      cases out
      · rw [if_neg (c := (false = true)) (by simp), if_pos (by omega), if_pos (by omega)]
        rfl
      · rw [if_pos (c := (true = true)) rfl]
        by_cases h2 : dn < sp
        · rw [if_pos h2, if_pos (by omega), if_pos (by omega), if_pos (by omega), if_pos (by omega), decide_eq_true h2]
          rfl
        · rw [if_neg h2, decide_eq_false h2]
          rfl
    · rw [show (rs[t].f1 != rd cells dn) = true by simpa using h1, show (rs[t].f1 == rd cells dn) = false by simpa using h1, if_pos (c := (true = true)) rfl]
      rfl
  · rw [if_pos (c := (true = true)) rfl, impl_isJob.j1, if_pos rfl]
    rfl
end

section
open Go.Proofs.Ytfinjkjnoobbjaa.MyHof
variable (w h : Int) (s : ByteArray) (a b c z : Int) (rs : List S84) (d e : Int) (ws : List Int) (f : Int) (g : Bool) (sp mv : Int) (ways : List S143) (js : List S141) (gs : List Int)
variable (hrs : rs.length ≤ 1048576) (hjs : js.length ≤ 1048576)
def lenB (sp : Int) (ways : List S143) (i : Nat) : Bool := decide (((rd_T143 ways (i : Int)).f0.length : Int) - 1 = sp)
def okB (rs : List S84) (sp least : Int) (ways : List S143) (js : List S141) (i : Nat) : Bool := jobB rs sp least (js.take i) (rd_T141 js (i : Int)) (rd_T143 ways (i : Int)).f0
include hrs hjs in
theorem specJob_ev (least : Int) (hl : ∀ k, js.length < k → spec_LayerOf.f k w h s a b c z rs d e ws f g sp mv ways js gs = some least) (hsp : sp ≤ 20) (i : Nat) (hi : i < js.length) (hw : i < ways.length) (hc : (rd_T143 ways (i : Int)).f0.length ≤ 1048576) (k : Nat) (hk : rs.length + js.length + 2 ≤ k) :
    spec_l21Job.f k w h s a b c z rs d e ws f g sp mv ways js gs (i : Int) = some (lenB sp ways i && okB rs sp least ways js i) := by
  have hj0 : ∀ k cells t id dn out, spec_l21Job.j0 (k + 1) (i : Int) cells t true w h s a b c z rs d e ws f g sp mv ways js gs id dn out = some false := fun k cells t id dn out => by rw [spec_l21Job.j0, if_pos rfl]
  obtain ⟨k, rfl⟩ := ksucc (show 0 < k by omega)
  unfold spec_l21Job.f lenB okB jobB
  rw [if_pos (by omega), if_pos (by omega), if_pos (by omega), specRobotAt_ev rs _ hrs _ (by omega), Option.bind_some, w64 (by omega) (by omega)]
  generalize rd_T141 js (i : Int) = j
  generalize (rd_T143 ways (i : Int)).f0 = cells at hc ⊢
  by_cases h1 : (cells.length : Int) - 1 = sp
  · rw [if_pos h1, decide_eq_true h1, Bool.true_and]
    rcases idx_find (fun r : S84 => r.f0 == j.f0) rs with ⟨e1, e2⟩ | ⟨t, ht, e1, e2⟩
    · rw [e1, e2, if_pos (by omega), hj0]
    · rw [e1, e2, if_neg (by omega), if_pos (by omega), if_pos (by omega), rdIRobot rs t ht]
      show _ = some (!rs[t].f3 && (decide (0 ≤ j.f1) && (decide (j.f1 ≤ sp) && (!(decide (j.f1 > wrap64 (least + 1))) && (!((js.take i).any fun x => x.f0 == j.f0) && tailB rs[t] cells sp j.f1 j.f2)))))
      cases h2 : rs[t].f3
      · rw [if_neg (c := (false = true)) (by simp)]
        unfold spec_l01In.f
        by_cases h3 : j.f1 ≥ 0
        · rw [if_pos h3, Option.bind_some, decide_eq_true (show 0 ≤ j.f1 from h3)]
          by_cases h4 : j.f1 ≤ sp
          · rw [decide_eq_true h4, if_pos (c := (true = true)) rfl, hl _ (by omega), Option.bind_some]
            by_cases h5 : j.f1 > wrap64 (least + 1)
            · rw [decide_eq_true h5, hj0]
              rfl
            · rw [decide_eq_false h5, spec_l21Job.j0, if_neg (by simp)]
              have := specJob_l0 w h s a b c z rs d e ws f g sp mv ways js gs hjs i hi cells t ht j.f0 j.f1 j.f2 h3 h4 hsp h1 i 0 k (by omega) (by omega)
              rw [show ((0 : Nat) : Int) = 0 from rfl, List.drop_zero] at this
              rw [this]
              rfl
          · rw [decide_eq_false h4, if_neg (c := (false = true)) (by simp), hj0]
            rfl
        · rw [if_neg h3, Option.bind_some, if_neg (c := (false = true)) (by simp), hj0, decide_eq_false (show ¬ 0 ≤ j.f1 from h3)]
          rfl
      · rw [if_pos (c := (true = true)) rfl, hj0]
        rfl
  · rw [if_neg h1, decide_eq_false h1, hj0, Bool.false_and]
theorem implJob_ev (least : Int) (hsp : sp ≤ 20) (i : Nat) (hi : i < js.length) (hw : i < ways.length) (hc : lenB sp ways i = true) (k : Nat) (hk : 2 ≤ k) :
    impl_isJob.f k w h s a b c z rs d e ws f g sp mv ways js gs (i : Int) least = some (okB rs sp least ways js i) := by
  have hj0 : ∀ k cells t id dn out, impl_isJob.j0 (k + 1) (i : Int) cells t true w h s a b c z rs d e ws f g sp mv ways js gs id dn out = some false := fun k cells t id dn out => by rw [impl_isJob.j0, if_pos rfl]
  obtain ⟨k, rfl⟩ : ∃ m, k = m + 2 := ⟨k - 2, by omega⟩
  unfold lenB at hc
  have hc := of_decide_eq_true hc
  unfold impl_isJob.f okB jobB impl_RobotAt.f
  rw [if_pos (by omega), if_pos (by omega), if_pos (by omega), Option.bind_some]
  generalize rd_T141 js (i : Int) = j
  generalize (rd_T143 ways (i : Int)).f0 = cells at hc ⊢
  rcases idx_find (fun r : S84 => r.f0 == j.f0) rs with ⟨e1, e2⟩ | ⟨t, ht, e1, e2⟩
  · rw [e1, e2, if_pos (by omega), hj0]
  · rw [e1, e2, if_neg (by omega), if_pos (by omega), if_pos (by omega), rdIRobot rs t ht]
    show _ = some (!rs[t].f3 && (decide (0 ≤ j.f1) && (decide (j.f1 ≤ sp) && (!(decide (j.f1 > wrap64 (least + 1))) && (!((js.take i).any fun x => x.f0 == j.f0) && tailB rs[t] cells sp j.f1 j.f2)))))
    cases h2 : rs[t].f3
    · rw [if_neg (c := (false = true)) (by simp)]
      by_cases h3 : j.f1 < 0
      · rw [if_pos h3, hj0, decide_eq_false (show ¬ 0 ≤ j.f1 by omega)]
        rfl
      · rw [if_neg h3, decide_eq_true (show 0 ≤ j.f1 by omega)]
        by_cases h4 : j.f1 > sp
        · rw [if_pos h4, hj0, decide_eq_false (show ¬ j.f1 ≤ sp by omega)]
          rfl
        · rw [if_neg h4, decide_eq_true (show j.f1 ≤ sp by omega)]
          by_cases h5 : j.f1 > wrap64 (least + 1)
          · rw [decide_eq_true h5, hj0]
            rfl
          · rw [decide_eq_false h5, implJob_j0 w h s a b c z rs d e ws f g sp mv ways js gs i hi cells t ht j.f0 j.f1 j.f2 (by omega) (by omega) hsp hc k]
            rfl
    · rw [if_pos (c := (true = true)) rfl, hj0]
      rfl
include hrs hjs in
theorem specJobs_l0 (least : Int) (hl : ∀ k, js.length < k → spec_LayerOf.f k w h s a b c z rs d e ws f g sp mv ways js gs = some least) (hsp : sp ≤ 20) (hw : js.length = ways.length) (hc : ∀ i : Nat, i < ways.length → (rd_T143 ways (i : Int)).f0.length ≤ 1048576) : ∀ (n i k : Nat), i + n = js.length → n + rs.length + js.length + 2 < k →
    spec_l21Jobs.l0 k (i : Int) w h s a b c z rs d e ws f g sp mv ways js gs = some ((List.range' i n).all fun i => lenB sp ways i && okB rs sp least ways js i) := by
  intro n
  induction n with
  | zero =>
    intro i k hi hk
    obtain ⟨k, rfl⟩ := ksucc (show 0 < k by omega)
    rw [spec_l21Jobs.l0, if_neg (by omega)]
    rfl
  | succ n ih =>
    intro i k hi hk
    obtain ⟨k, rfl⟩ := ksucc (show 0 < k by omega)
    rw [spec_l21Jobs.l0, if_pos (by omega), specJob_ev w h s a b c z rs d e ws f g sp mv ways js gs hrs hjs least hl hsp i (by omega) (by omega) (hc i (by omega)) k (by omega), Option.bind_some, wnat (by omega), ih (i + 1) k (by omega) (by omega), List.range'_succ, List.all_cons]
    cases lenB sp ways i && okB rs sp least ways js i <;> rfl
include hjs in
theorem implJobs_l0 (least : Int) (x0 x1 : Int) (x2 : List S143) (hsp : sp ≤ 20) (hw : js.length = ways.length) (hc : ∀ i : Nat, i < ways.length → lenB sp ways i = true) : ∀ (n i k : Nat), i + n = js.length → n + 2 < k →
    impl_jobsOk.l0 k false least (js.length : Int) (i : Int) w h s a b c z rs d e ws f g sp mv ways js gs x0 x1 x2 = some (((List.range' i n).all fun i => okB rs sp least ways js i) && decide (least < x0)) := by
  intro n
  induction n with
  | zero =>
    intro i k hi hk
    obtain ⟨k, rfl⟩ := ksucc (show 0 < k by omega)
    rw [impl_jobsOk.l0, if_neg (by omega), if_neg (by simp)]
    rfl
  | succ n ih =>
    intro i k hi hk
    obtain ⟨k, rfl⟩ := ksucc (show 0 < k by omega)
    rw [impl_jobsOk.l0, if_pos (by omega), implJob_ev w h s a b c z rs d e ws f g sp mv ways js gs least hsp i (by omega) (by omega) (hc i (by omega)) k (by omega), Option.bind_some, wnat (by omega), ih (i + 1) k (by omega) (by omega), List.range'_succ, List.all_cons]
    cases okB rs sp least ways js i <;> rfl
include hrs hjs in
theorem jobs_same (hwz : ways.length ≤ 1048576) (hww : ∀ x ∈ ways, x.f0.length ≤ 1048576) : ∃ r, (∀ k, 3145800 < k → spec_JobsOk.f k w h s a b c z rs d e ws f g sp mv ways js gs = some r) ∧ ∀ k, 3145800 < k → impl_JobsOk.f k w h s a b c z rs d e ws f g sp mv ways js gs = some r := by
  obtain ⟨least, hl⟩ : ∃ v, impl_LayerOf.f w h s a b c z rs d e ws f g sp mv ways js gs = some v := ⟨_, rfl⟩
  have hl' : ∀ k, js.length < k → spec_LayerOf.f k w h s a b c z rs d e ws f g sp mv ways js gs = some least := fun k hk => (layer_same js w h s a b c z rs d e ws f g sp mv ways gs hjs k hk).trans hl
  have hrd : ∀ (i : Nat) (hi : i < ways.length), rd_T143 ways (i : Int) = ways[i] := fun i hi => by simp [rd_T143, List.getD, hi]
  have hc : ∀ i : Nat, i < ways.length → (rd_T143 ways (i : Int)).f0.length ≤ 1048576 := fun i hi => by rw [hrd i hi]; exact hww _ (List.getElem_mem hi)
  cases g with
  | false =>
    refine ⟨if sp = 0 then (if mv = 0 then (if (ways.length : Int) = 0 then ((js.length : Int) == 0) else false) else false) else false, fun k _ => ?_, fun k _ => ?_⟩
    rotate_left
    · unfold impl_JobsOk.f impl_jobsOk.f
      rw [if_neg (c := (false = true)) (by simp)]
      exact (show (if sp = 0 then (if mv = 0 then (if (ways.length : Int) = 0 then some ((js.length : Int) == 0) else some false) else some false) else some false : Option Bool).bind (fun t => some t) = some (if sp = 0 then (if mv = 0 then (if (ways.length : Int) = 0 then ((js.length : Int) == 0) else false) else false) else false) by
        by_cases h1 : sp = 0
        · rw [if_pos h1, if_pos h1]
          by_cases h2 : mv = 0
          · rw [if_pos h2, if_pos h2]
            by_cases h3 : (ways.length : Int) = 0
            · rw [if_pos h3, if_pos h3]; rfl
            · rw [if_neg h3, if_neg h3]; rfl
          · rw [if_neg h2, if_neg h2]; rfl
        · rw [if_neg h1, if_neg h1]; rfl)
    · unfold spec_JobsOk.f
      rw [if_neg (c := (false = true)) (by simp)]
      by_cases h1 : sp = 0
      · rw [if_pos h1, if_pos h1]
        by_cases h2 : mv = 0
        · rw [if_pos h2, if_pos h2]
          by_cases h3 : (ways.length : Int) = 0
          · rw [if_pos h3, if_pos h3]
          · rw [if_neg h3, if_neg h3]
        · rw [if_neg h2, if_neg h2]
      · rw [if_neg h1, if_neg h1]
  | true =>
    by_cases h1 : sp > 20
    · refine ⟨false, fun k hk => ?_, fun k hk => ?_⟩
      · obtain ⟨k, rfl⟩ := ksucc (show 0 < k by omega)
        unfold spec_JobsOk.f spec_l21Jobs.f
        rw [if_pos (c := (true = true)) rfl, if_pos h1, spec_l21Jobs.j0, if_pos rfl]
        rfl
      · obtain ⟨k, rfl⟩ := ksucc (show 0 < k by omega)
        unfold impl_JobsOk.f impl_jobsOk.f
        rw [if_pos (c := (true = true)) rfl, if_neg (by omega), if_pos h1, impl_jobsOk.j0, if_pos rfl]
        rfl
    by_cases h2 : 1 ≤ js.length ∧ js.length ≤ 10 ∧ js.length = ways.length
    rotate_left
    · refine ⟨false, fun k hk => ?_, fun k hk => ?_⟩
      · obtain ⟨k, rfl⟩ := ksucc (show 0 < k by omega)
        unfold spec_JobsOk.f spec_l21Jobs.f spec_l01In.f
        rw [if_pos (c := (true = true)) rfl, if_neg h1]
        by_cases h3 : (js.length : Int) ≥ 1
        · rw [if_pos h3]
          by_cases h4 : (js.length : Int) ≤ 10
          · rw [decide_eq_true h4, Option.bind_some, if_pos (c := (true = true)) rfl, show ((js.length : Int) != (ways.length : Int)) = true by simp; omega, spec_l21Jobs.j0, if_pos rfl]
            rfl
          · rw [decide_eq_false h4, Option.bind_some, if_neg (c := (false = true)) (by simp), spec_l21Jobs.j0, if_pos rfl]
            rfl
        · rw [if_neg h3, Option.bind_some, if_neg (c := (false = true)) (by simp), spec_l21Jobs.j0, if_pos rfl]
          rfl
      · obtain ⟨k, rfl⟩ := ksucc (show 0 < k by omega)
        unfold impl_JobsOk.f impl_jobsOk.f
        rw [if_pos (c := (true = true)) rfl]
        have hj : ∀ k, impl_jobsOk.j0 (k + 1) false true w h s a b c z rs d e ws f true sp mv ways js gs sp mv ways = some false := fun k => by rw [impl_jobsOk.j0, if_pos rfl]
        by_cases h3 : sp < 0
        · rw [if_pos h3, hj]; rfl
        · rw [if_neg h3, if_neg h1]
          by_cases h4 : (js.length : Int) < 1
          · rw [if_pos h4, hj]; rfl
          · rw [if_neg h4]
            by_cases h5 : (js.length : Int) > 10
            · rw [if_pos h5, hj]; rfl
            · rw [if_neg h5, show ((js.length : Int) != (ways.length : Int)) = true by simp; omega, hj]
              rfl
    obtain ⟨h2, h3, h4⟩ := h2
    have hsp : ∀ k, 3145800 < k → spec_JobsOk.f k w h s a b c z rs d e ws f true sp mv ways js gs = some (((List.range' 0 js.length).all fun i => lenB sp ways i && okB rs sp least ways js i) && decide (least < sp)) := fun k hk => by
      obtain ⟨k, rfl⟩ := ksucc (show 0 < k by omega)
      have := specJobs_l0 w h s a b c z rs d e ws f true sp mv ways js gs hrs hjs least hl' (by omega) h4 hc js.length 0 k (by omega) (by omega)
      rw [show ((0 : Nat) : Int) = 0 from rfl] at this
      unfold spec_JobsOk.f spec_l21Jobs.f spec_l01In.f
      rw [if_pos (c := (true = true)) rfl, if_neg h1, if_pos (by omega), decide_eq_true (show (js.length : Int) ≤ 10 by omega), Option.bind_some, if_pos (c := (true = true)) rfl, show ((js.length : Int) != (ways.length : Int)) = false by simp; omega, spec_l21Jobs.j0, if_neg (c := (false = true)) (by simp), this, Option.bind_some, hl' _ (by omega)]
      cases (List.range' 0 js.length).all fun i => lenB sp ways i && okB rs sp least ways js i
      · rfl
      · rfl
    by_cases h5 : ∀ i : Nat, i < ways.length → lenB sp ways i = true
    · refine ⟨_, hsp, fun k hk => ?_⟩
      obtain ⟨k, rfl⟩ := ksucc (show 0 < k by omega)
      have h0 := h5 0 (by omega)
      unfold lenB at h0
      have h0 := of_decide_eq_true h0
      by_cases h6 : sp < 0
      · unfold impl_JobsOk.f impl_jobsOk.f
        rw [if_pos (c := (true = true)) rfl, if_pos h6, impl_jobsOk.j0, if_pos rfl]
        have : ((List.range' 0 js.length).all fun i => lenB sp ways i && okB rs sp least ways js i) = false := by
          rw [List.all_eq_false]
          refine ⟨0, by simp; omega, ?_⟩
          have : okB rs sp least ways js 0 = false := by
            unfold okB jobB
            cases rs.find? (fun r => r.f0 == (rd_T141 js ((0 : Nat) : Int)).f0) with
            | none => rfl
            | some r =>
              simp
              intro _ h7 h8
              omega
          rw [this]
          simp
        rw [this]
        rfl
      · have hany : impl_jobsOk_1.f ways sp mv ways = some false := by
          unfold impl_jobsOk_1.f
          congr 1
          rw [List.any_eq_false]
          intro x hx
          obtain ⟨i, hi, rfl⟩ := List.mem_iff_getElem.1 hx
          have := of_decide_eq_true (h5 i hi)
          rw [hrd i hi] at this
          unfold impl_jobsOk_1.p
          rw [w64 (by omega) (by omega)]
          simp
          omega
        have := implJobs_l0 w h s a b c z rs d e ws f true sp mv ways js gs hjs least sp mv ways (by omega) h4 h5 js.length 0 k (by omega) (by omega)
        rw [show ((0 : Nat) : Int) = 0 from rfl] at this
        unfold impl_JobsOk.f impl_jobsOk.f
        rw [if_pos (c := (true = true)) rfl, if_neg h6, if_neg h1, if_neg (by omega), if_neg (by omega), show ((js.length : Int) != (ways.length : Int)) = false by simp; omega, impl_jobsOk.j0, if_neg (c := (false = true)) (by simp), hany, Option.bind_some, if_neg (c := (false = true)) (by simp), hl, Option.bind_some, this, Option.bind_some]
        congr 2
        rw [Bool.eq_iff_iff, List.all_eq_true, List.all_eq_true]
        refine ⟨fun hx i hi => ?_, fun hx i hi => ?_⟩
        · rw [h5 i (by simp at hi; omega), Bool.true_and]; exact hx i hi
        · have := hx i hi
          rw [Bool.and_eq_true] at this
          exact this.2
    · obtain ⟨i, hi⟩ := Classical.not_forall.1 h5
      obtain ⟨hi, h6⟩ := Classical.not_imp.1 hi
      refine ⟨false, fun k hk => ?_, fun k hk => ?_⟩
      · rw [hsp k hk]
        have : ((List.range' 0 js.length).all fun i => lenB sp ways i && okB rs sp least ways js i) = false := by
          rw [List.all_eq_false]
          refine ⟨i, by simp; omega, ?_⟩
          rw [Bool.eq_false_iff.2 h6]
          simp
        rw [this]
        rfl
      · obtain ⟨k, rfl⟩ := ksucc (show 0 < k by omega)
        unfold impl_JobsOk.f impl_jobsOk.f
        rw [if_pos (c := (true = true)) rfl]
        by_cases h7 : sp < 0
        · rw [if_pos h7, impl_jobsOk.j0, if_pos rfl]
          rfl
        have hany : impl_jobsOk_1.f ways sp mv ways = some true := by
          unfold impl_jobsOk_1.f
          congr 1
          rw [List.any_eq_true]
          refine ⟨ways[i], List.getElem_mem hi, ?_⟩
          unfold lenB at h6
          rw [hrd i hi] at h6
          have h6 := fun q => h6 (decide_eq_true q)
          unfold impl_jobsOk_1.p
          rw [w64 (by omega) (by omega)]
          simp
          intro q
          exact h6 (by omega)
        rw [if_neg h7, if_neg h1, if_neg (by omega), if_neg (by omega), show ((js.length : Int) != (ways.length : Int)) = false by simp; omega, impl_jobsOk.j0, if_neg (c := (false = true)) (by simp), hany, Option.bind_some, if_pos (c := (true = true)) rfl]
        rfl
end
theorem FnExactJobsOk : OpFnExactJobsOk.Pure := by
  rintro ⟨⟨⟨w, h, s⟩, a, b, c, z⟩, rs, ⟨d, e, ws⟩, f, g, ⟨l, m, ways⟩, js, gs⟩ ⟨⟨⟨_, _, hs⟩, _⟩, ⟨hrs, _⟩, ⟨_, _, hws, _⟩, _, _, ⟨_, _, hwz, hww⟩, ⟨hjs, _⟩, hgs, _⟩
  simp only at hs hrs hws hwz hww hjs hgs
  obtain ⟨K, hK1, hK2, hK⟩ : ∃ K, js.length < K ∧ ways.length < K ∧ 5000001 < K := ⟨js.length + ways.length + 5000200, by omega, by omega, by omega⟩
  refine ⟨K, ?_⟩
  unfold laws_FnExactJobsOk.f
  obtain ⟨t, e1, e2⟩ := szYard_ev K w h s a b c z rs d e ws f g l m ways js gs hs hrs hws hwz (fun x hx => (hww x hx).1) hjs hgs (by omega)
  simp only [e1, Option.bind_some]
  by_cases ht : t < 0
  · rw [if_pos ht]
  obtain ⟨b0, b1, b2, b3, b4, b5, b6⟩ := e2 (by omega)
  rw [if_neg ht, toYard_ev _ w h s a b c z rs d e ws f g l m ways js gs b1 b2 b3 b4 b5 b6 (by omega)]
  simp only [Option.bind_some]
  obtain ⟨r, sp, ip⟩ := jobs_same w h s a b c z (rs.map cvRobot) d e ws f g l m (ways.map cvWay) (js.map cvJob) gs (by simpa using b1) (by simpa using b5) (by simpa using b3) (by intro x hx; obtain ⟨y, hy, rfl⟩ := List.mem_map.1 hx; exact b4 y hy)
  rw [sp K (by omega)]
  simp only [Option.bind_some]
  rw [ip K (by omega)]
  simp only [Option.bind_some]
  rw [if_neg (by simp)]
  rw [eqYard_ev _ w h s a b c z _ d e ws f g l m _ _ gs (by simpa using b1) b2 (by simpa using b3) (by intro x hx; obtain ⟨y, hy, rfl⟩ := List.mem_map.1 hx; exact b4 y hy) (by simpa using b5) b6 (by omega)]
  rfl

end Go.Proofs.Ytfinjkjnoobbjaa.Pure
