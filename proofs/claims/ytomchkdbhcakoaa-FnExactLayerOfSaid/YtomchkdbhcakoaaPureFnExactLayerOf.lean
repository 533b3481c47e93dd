/- The law FnExactLayerOf over numbers and lists alone: it answers true for every input; no condition beside the bounds of the kinds. -/
import Derived.Test.YtomchkdbhcakoaaMFnExactLayerOfx
import Derived.Test.YtomchkdbhcakoaaOpFnExactLayerOf
namespace Go.Proofs.Ytomchkdbhcakoaa.Pure
open Go.RowKit Go.Proofs.Ytomchkdbhcakoaa.MFnExactLayerOf Go.Proofs.YtomchkdbhcakoaaW.PrintWords Go.Proofs.YtomchkdbhcakoaaW.PrintLast Go.Proofs.Ytomchkdbhcakoaa
set_option linter.unusedVariables false
set_option linter.unusedSimpArgs false

theorem w64 {x : Int} (h1 : -9223372036854775808 ≤ x) (h2 : x ≤ 9223372036854775807) : wrap64 x = x := by unfold wrap64; omega
theorem wnat {i : Nat} (h : i < 4611686018427387904) : wrap64 ((i : Int) + 1) = ((i + 1 : Nat) : Int) := by unfold wrap64; omega
theorem ksucc {k d : Nat} (h : d < k) : ∃ m, k = m + 1 := ⟨k - 1, by omega⟩

theorem fill_step {α β : Type} (f : α → β) (z : β) (xs : List α) (i d : Nat) (h : i + (d + 1) = xs.length) (hi : i < xs.length) :
    ((xs.take i).map f ++ List.replicate (d + 1) z).set i (f xs[i]) = (xs.take (i + 1)).map f ++ List.replicate d z := by
  have hl : ((xs.take i).map f).length = i := by simp; omega
  rw [List.replicate_succ, List.set_append_right _ _ (by omega), hl, Nat.sub_self, List.set_cons_zero, List.take_succ_eq_append_getElem hi, List.map_append]
  simp

/-! Robots, made of what came in -/
def cvRobot (y : S117) : S89 := ⟨y.f0, y.f1, y.f2, y.f3⟩
theorem rdLRobot (xs : List S117) (i : Nat) (h : i < xs.length) : rd_T117 xs (i : Int) = xs[i] := by simp [rd_T117, List.getD, h]
theorem toRobotS_l (xs : List S117) (hb : xs.length ≤ 1048576) : ∀ (d i k : Nat), i + d = xs.length → d < k →
    laws_toRobotS.l0 k xs ((xs.take i).map cvRobot ++ List.replicate d z89) (i : Int) = some (xs.map cvRobot) := by
  intro d
  induction d with
  | zero =>
    intro i k h hk
    obtain ⟨k, rfl⟩ := ksucc hk
    simp only [laws_toRobotS.l0]
    rw [if_neg (by omega), List.take_of_length_le (by omega)]
    simp
  | succ d ih =>
    intro i k h hk
    obtain ⟨k, rfl⟩ := ksucc hk
    have hi : i < xs.length := by omega
    simp only [laws_toRobotS.l0, laws_toRobot.f, Option.bind_some]
    rw [if_pos (by omega), if_pos (by omega), if_pos (by simp; omega), rdLRobot xs i hi, wnat (by omega)]
    have e : (i : Int).toNat = i := by simp
    rw [e]
    exact (congrArg (fun z => laws_toRobotS.l0 k xs z ((i + 1 : Nat) : Int)) (fill_step cvRobot z89 xs i d h hi)).trans (ih (i + 1) k (by omega) (by omega))
theorem toRobotS_ev (xs : List S117) (hb : xs.length ≤ 1048576) (k : Nat) (hk : xs.length < k) : laws_toRobotS.f k xs = some (xs.map cvRobot) := by
  unfold laws_toRobotS.f
  rw [if_pos (by omega), if_pos (by omega)]
  have := toRobotS_l xs hb xs.length 0 k (by omega) hk
  simpa using this

/-! Jobs, made of what came in -/
def cvJob (y : S148) : S103 := ⟨y.f0, y.f1, y.f2⟩
theorem rdLJob (xs : List S148) (i : Nat) (h : i < xs.length) : rd_T148 xs (i : Int) = xs[i] := by simp [rd_T148, List.getD, h]
theorem toJobS_l (xs : List S148) (hb : xs.length ≤ 1048576) : ∀ (d i k : Nat), i + d = xs.length → d < k →
    laws_toJobS.l0 k xs ((xs.take i).map cvJob ++ List.replicate d z103) (i : Int) = some (xs.map cvJob) := by
  intro d
  induction d with
  | zero =>
    intro i k h hk
    obtain ⟨k, rfl⟩ := ksucc hk
    simp only [laws_toJobS.l0]
    rw [if_neg (by omega), List.take_of_length_le (by omega)]
    simp
  | succ d ih =>
    intro i k h hk
    obtain ⟨k, rfl⟩ := ksucc hk
    have hi : i < xs.length := by omega
    simp only [laws_toJobS.l0, laws_toJob.f, Option.bind_some]
    rw [if_pos (by omega), if_pos (by omega), if_pos (by simp; omega), rdLJob xs i hi, wnat (by omega)]
    have e : (i : Int).toNat = i := by simp
    rw [e]
    exact (congrArg (fun z => laws_toJobS.l0 k xs z ((i + 1 : Nat) : Int)) (fill_step cvJob z103 xs i d h hi)).trans (ih (i + 1) k (by omega) (by omega))
theorem toJobS_ev (xs : List S148) (hb : xs.length ≤ 1048576) (k : Nat) (hk : xs.length < k) : laws_toJobS.f k xs = some (xs.map cvJob) := by
  unfold laws_toJobS.f
  rw [if_pos (by omega), if_pos (by omega)]
  have := toJobS_l xs hb xs.length 0 k (by omega) hk
  simpa using this

/-! lists of numbers, made of what came in -/
theorem rdT (xs : List Int) (i : Nat) (h : i < xs.length) : rd xs (i : Int) = xs[i] := by simp [rd, List.getD, h]
theorem toIntS_l (xs : List Int) (hb : xs.length ≤ 1048576) : ∀ (d i k : Nat), i + d = xs.length → d < k →
    laws_toIntS.l0 k xs ((xs.take i).map id ++ List.replicate d 0) (i : Int) = some xs := by
  intro d
  induction d with
  | zero =>
    intro i k h hk
    obtain ⟨k, rfl⟩ := ksucc hk
    simp only [laws_toIntS.l0]
    rw [if_neg (by omega), List.take_of_length_le (by omega)]
    simp
  | succ d ih =>
    intro i k h hk
    obtain ⟨k, rfl⟩ := ksucc hk
    have hi : i < xs.length := by omega
    simp only [laws_toIntS.l0]
    rw [if_pos (by omega), if_pos (by omega), if_pos (by simp; omega), rdT xs i hi, wnat (by omega)]
    have e : (i : Int).toNat = i := by simp
    rw [e]
    exact (congrArg (fun z => laws_toIntS.l0 k xs z ((i + 1 : Nat) : Int)) (fill_step id 0 xs i d h hi)).trans (ih (i + 1) k (by omega) (by omega))
theorem toIntS_ev (xs : List Int) (hb : xs.length ≤ 1048576) (k : Nat) (hk : xs.length < k) : laws_toIntS.f k xs = some xs := by
  unfold laws_toIntS.f
  rw [if_pos (by omega), if_pos (by omega)]
  have := toIntS_l xs hb xs.length 0 k (by omega) hk
  simpa using this

/-! ways, made of what came in -/
def cvWay (y : S174) : S159 := ⟨y.f0⟩
theorem rdLWay (xs : List S174) (i : Nat) (h : i < xs.length) : rd_T174 xs (i : Int) = xs[i] := by simp [rd_T174, List.getD, h]
theorem toWayS_l (xs : List S174) (hb : xs.length ≤ 1048576) (hw : ∀ x ∈ xs, x.f0.length ≤ 1048576) : ∀ (d i k : Nat), i + d = xs.length → d + 1048577 < k →
    laws_toWayS.l0 k xs ((xs.take i).map cvWay ++ List.replicate d z159) (i : Int) = some (xs.map cvWay) := by
  intro d
  induction d with
  | zero =>
    intro i k h hk
    obtain ⟨k, rfl⟩ := ksucc (show 0 < k by omega)
    simp only [laws_toWayS.l0]
    rw [if_neg (by omega), List.take_of_length_le (by omega)]
    simp
  | succ d ih =>
    intro i k h hk
    obtain ⟨k, rfl⟩ := ksucc (show 0 < k by omega)
    have hi : i < xs.length := by omega
    have hwi := hw _ (List.getElem_mem hi)
    simp only [laws_toWayS.l0]
    rw [if_pos (by omega), if_pos (by omega), rdLWay xs i hi]
    unfold laws_toWay.f
    rw [toIntS_ev _ hwi k (by omega)]
    simp only [Option.bind_some]
    rw [if_pos (by simp; omega), wnat (by omega)]
    have e : (i : Int).toNat = i := by simp
    rw [e]
    exact (congrArg (fun z => laws_toWayS.l0 k xs z ((i + 1 : Nat) : Int)) (fill_step cvWay z159 xs i d h hi)).trans (ih (i + 1) k (by omega) (by omega))
theorem toWayS_ev (xs : List S174) (hb : xs.length ≤ 1048576) (hw : ∀ x ∈ xs, x.f0.length ≤ 1048576) (k : Nat) (hk : xs.length + 1048577 < k) : laws_toWayS.f k xs = some (xs.map cvWay) := by
  unfold laws_toWayS.f
  rw [if_pos (by omega), if_pos (by omega)]
  have := toWayS_l xs hb hw xs.length 0 k (by omega) hk
  simpa using this

/-! the size of a yard -/
theorem rdZWay (xs : List S174) (i : Nat) (h : i < xs.length) : rd_T174 xs (i : Int) = xs[i] := by simp [rd_T174, List.getD, h]
theorem szWayS_l (xs : List S174) (hb : xs.length ≤ 1048576) (hw : ∀ x ∈ xs, x.f0.length * 8 ≤ 140737488351232) : ∀ (d i k : Nat) (b : Int), i + d = xs.length → d < k → 0 ≤ b → b ≤ 1048576 →
    ∃ t, laws_szWayS.l0 k xs b (i : Int) = some t ∧ t ≤ b ∧ (0 ≤ t → ∀ j (hj : j < xs.length), i ≤ j → xs[j].f0.length ≤ 1048576) := by
  intro d
  induction d with
  | zero =>
    intro i k b h hk h0 h1
    obtain ⟨k, rfl⟩ := ksucc hk
    rw [laws_szWayS.l0, if_neg (by omega)]
    exact ⟨b, rfl, by omega, fun _ j hj hij => by omega⟩
  | succ d ih =>
    intro i k b h hk h0 h1
    obtain ⟨k, rfl⟩ := ksucc hk
    have hi : i < xs.length := by omega
    have hwi := hw _ (List.getElem_mem hi)
    rw [laws_szWayS.l0, if_pos (by omega), if_pos (by omega), rdZWay xs i hi]
    unfold laws_szWay.f laws_szIntS.f
    rw [w64 (x := b - _) (by omega) (by omega), wnat (i := i) (by omega)]
    by_cases h2 : b - (xs[i].f0.length : Int) < 0
    · rw [if_pos h2]
      exact ⟨-1, rfl, by omega, fun h => by omega⟩
    · rw [if_neg h2]
      simp only [Option.bind_some]
      rw [if_neg h2]
      simp only [Option.bind_some]
      rw [if_neg h2]
      obtain ⟨t, e, h3, h4⟩ := ih (i + 1) k (b - (xs[i].f0.length : Int)) (by omega) (by omega) (by omega) (by omega)
      refine ⟨t, e, by omega, fun ht j hj hij => ?_⟩
      by_cases hij' : i = j
      · subst hij'; omega
      · exact h4 ht j hj (by omega)
theorem szWayS_ev (xs : List S174) (hz : xs.length * 24 ≤ 140737488351232) (hw : ∀ x ∈ xs, x.f0.length * 8 ≤ 140737488351232) (k : Nat) (hk : xs.length < k) (b : Int) (h0 : 0 ≤ b) (h1 : b ≤ 1048576) :
    ∃ t, laws_szWayS.f k xs b = some t ∧ t ≤ b ∧ (0 ≤ t → xs.length ≤ 1048576 ∧ ∀ x ∈ xs, x.f0.length ≤ 1048576) := by
  unfold laws_szWayS.f
  rw [w64 (by omega) (by omega)]
  by_cases h2 : b - (xs.length : Int) < 0
  · rw [if_pos h2]
    exact ⟨-1, rfl, by omega, fun h => by omega⟩
  · rw [if_neg h2]
    obtain ⟨t, e, h3, h4⟩ := szWayS_l xs (by omega) hw xs.length 0 k (b - xs.length) (by omega) hk (by omega) (by omega)
    refine ⟨t, e, by omega, fun ht => ⟨by omega, fun x hx => ?_⟩⟩
    obtain ⟨j, hj, rfl⟩ := List.mem_iff_getElem.1 hx
    exact h4 ht j hj (by omega)
theorem szYard_ev (k : Nat) (w h : Int) (s : ByteArray) (a b c z : Int) (rs : List S117) (d e : Int) (ws : List Int) (f : Int) (g : Bool) (l m : Int) (ways : List S174) (js : List S148) (gs : List Int)
    (hs : s.size ≤ 140737488351232) (hrs : rs.length * 32 ≤ 140737488351232) (hws : ws.length * 8 ≤ 140737488351232) (hwz : ways.length * 24 ≤ 140737488351232) (hww : ∀ x ∈ ways, x.f0.length * 8 ≤ 140737488351232) (hjs : js.length * 24 ≤ 140737488351232) (hgs : gs.length * 8 ≤ 140737488351232) (hk : ways.length < k) :
    ∃ t, laws_szYard.f k w h s a b c z rs d e ws f g l m ways js gs 1048576 = some t ∧
      (0 ≤ t → s.size ≤ 1048576 ∧ rs.length ≤ 1048576 ∧ ws.length ≤ 1048576 ∧ ways.length ≤ 1048576 ∧ (∀ x ∈ ways, x.f0.length ≤ 1048576) ∧ js.length ≤ 1048576 ∧ gs.length ≤ 1048576) := by
  unfold laws_szYard.f laws_szSetup.f laws_szGrid.f laws_szRobotS.f laws_szWindow.f laws_szPlan.f laws_szJobS.f laws_szIntS.f
  rw [w64 (x := 1048576 - _) (by omega) (by omega)]
  have bad : ∀ (o : Option Int) (P : Prop), o = some (-1) → ∃ t, o = some t ∧ (0 ≤ t → P) := fun o P e => ⟨-1, e, fun h => by omega⟩
  by_cases h1 : 1048576 - (s.size : Int) < 0
  · refine bad _ _ ?_; simp [h1]
  simp only [if_neg h1, Option.bind_some]
  rw [w64 (x := 1048576 - (s.size : Int) - _) (by omega) (by omega)]
  by_cases h2 : 1048576 - (s.size : Int) - (rs.length : Int) < 0
  · refine bad _ _ ?_; simp [h2]
  simp only [if_neg h2, Option.bind_some]
  rw [w64 (x := 1048576 - (s.size : Int) - (rs.length : Int) - _) (by omega) (by omega)]
  by_cases h3 : 1048576 - (s.size : Int) - (rs.length : Int) - (ws.length : Int) < 0
  · refine bad _ _ ?_; simp [h3]
  simp only [if_neg h3, Option.bind_some]
  obtain ⟨t, e1, e2, e3⟩ := szWayS_ev ways hwz hww k hk (1048576 - (s.size : Int) - (rs.length : Int) - (ws.length : Int)) (by omega) (by omega)
  rw [e1]
  simp only [Option.bind_some]
  by_cases h4 : t < 0
  · refine bad _ _ ?_; simp [h4]
  simp only [if_neg h4, Option.bind_some]
  obtain ⟨e4, e5⟩ := e3 (by omega)
  rw [w64 (x := t - _) (by omega) (by omega)]
  by_cases h5 : t - (js.length : Int) < 0
  · refine bad _ _ ?_; simp [h5]
  simp only [if_neg h5, Option.bind_some]
  rw [w64 (x := t - (js.length : Int) - _) (by omega) (by omega)]
  by_cases h6 : t - (js.length : Int) - (gs.length : Int) < 0
  · refine bad _ _ ?_; simp [h6]
  simp only [if_neg h6, Option.bind_some]
  exact ⟨_, rfl, fun _ => ⟨by omega, by omega, by omega, e4, e5, by omega, by omega⟩⟩

/-! a yard, made of what came in -/
theorem toYard_ev (k : Nat) (w h : Int) (s : ByteArray) (a b c z : Int) (rs : List S117) (d e : Int) (ws : List Int) (f : Int) (g : Bool) (l m : Int) (ways : List S174) (js : List S148) (gs : List Int)
    (hrs : rs.length ≤ 1048576) (hws : ws.length ≤ 1048576) (hwz : ways.length ≤ 1048576) (hww : ∀ x ∈ ways, x.f0.length ≤ 1048576) (hjs : js.length ≤ 1048576) (hgs : gs.length ≤ 1048576) (hk : 2097153 < k) :
    laws_toYard.f k w h s a b c z rs d e ws f g l m ways js gs = some (w, h, s, a, b, c, z, rs.map cvRobot, d, e, ws, f, g, l, m, ways.map cvWay, js.map cvJob, gs) := by
  unfold laws_toYard.f laws_toSetup.f laws_toGrid.f laws_toWindow.f laws_toPlan.f
  rw [toRobotS_ev rs hrs k (by omega), toIntS_ev ws hws k (by omega), toWayS_ev ways hwz hww k (by omega), toJobS_ev js hjs k (by omega), toIntS_ev gs hgs k (by omega)]
  rfl

/-! Robots, compared -/
theorem rdIRobot (xs : List S89) (i : Nat) (h : i < xs.length) : rd_T89 xs (i : Int) = xs[i] := by simp [rd_T89, List.getD, h]
theorem eqRobot_refl (x0 : Int) (x1 : Int) (x2 : Int) (x3 : Bool) : laws_eqRobot.f x0 x1 x2 x3 x0 x1 x2 x3 = some true := by simp [laws_eqRobot.f]
theorem eqRobotS_l (xs : List S89) (hb : xs.length ≤ 1048576) : ∀ (d i k : Nat), i + d = xs.length → d < k → laws_eqRobotS.l0 k xs xs (i : Int) = some true := by
  intro d
  induction d with
  | zero =>
    intro i k h hk
    obtain ⟨k, rfl⟩ := ksucc hk
    simp only [laws_eqRobotS.l0]
    rw [if_neg (by omega)]
  | succ d ih =>
    intro i k h hk
    obtain ⟨k, rfl⟩ := ksucc hk
    simp only [laws_eqRobotS.l0, eqRobot_refl, Option.bind_some]
    rw [if_pos (by omega), if_pos (by omega), if_pos (by omega), if_pos trivial, wnat (by omega)]
    exact ih (i + 1) k (by omega) (by omega)
theorem eqRobotS_ev (xs : List S89) (hb : xs.length ≤ 1048576) (k : Nat) (hk : xs.length < k) : laws_eqRobotS.f k xs xs = some true := by
  unfold laws_eqRobotS.f
  rw [if_pos rfl]
  exact eqRobotS_l xs hb xs.length 0 k (by omega) hk

/-! Jobs, compared -/
theorem rdIJob (xs : List S103) (i : Nat) (h : i < xs.length) : rd_T103 xs (i : Int) = xs[i] := by simp [rd_T103, List.getD, h]
theorem eqJob_refl (x0 : Int) (x1 : Int) (x2 : Bool) : laws_eqJob.f x0 x1 x2 x0 x1 x2 = some true := by simp [laws_eqJob.f]
theorem eqJobS_l (xs : List S103) (hb : xs.length ≤ 1048576) : ∀ (d i k : Nat), i + d = xs.length → d < k → laws_eqJobS.l0 k xs xs (i : Int) = some true := by
  intro d
  induction d with
  | zero =>
    intro i k h hk
    obtain ⟨k, rfl⟩ := ksucc hk
    simp only [laws_eqJobS.l0]
    rw [if_neg (by omega)]
  | succ d ih =>
    intro i k h hk
    obtain ⟨k, rfl⟩ := ksucc hk
    simp only [laws_eqJobS.l0, eqJob_refl, Option.bind_some]
    rw [if_pos (by omega), if_pos (by omega), if_pos (by omega), if_pos trivial, wnat (by omega)]
    exact ih (i + 1) k (by omega) (by omega)
theorem eqJobS_ev (xs : List S103) (hb : xs.length ≤ 1048576) (k : Nat) (hk : xs.length < k) : laws_eqJobS.f k xs xs = some true := by
  unfold laws_eqJobS.f
  rw [if_pos rfl]
  exact eqJobS_l xs hb xs.length 0 k (by omega) hk

/-! lists of numbers, compared -/
theorem rdN (xs : List Int) (i : Nat) (h : i < xs.length) : rd xs (i : Int) = xs[i] := by simp [rd, List.getD, h]
theorem eqIntS_l (xs : List Int) (hb : xs.length ≤ 1048576) : ∀ (d i k : Nat), i + d = xs.length → d < k → laws_eqIntS.l0 k xs xs (i : Int) = some true := by
  intro d
  induction d with
  | zero =>
    intro i k h hk
    obtain ⟨k, rfl⟩ := ksucc hk
    rw [laws_eqIntS.l0, if_neg (by omega)]
  | succ d ih =>
    intro i k h hk
    obtain ⟨k, rfl⟩ := ksucc hk
    rw [laws_eqIntS.l0, if_pos (by omega), if_pos (by omega), if_pos (by omega), if_pos rfl, wnat (by omega)]
    exact ih (i + 1) k (by omega) (by omega)
theorem eqIntS_ev (xs : List Int) (hb : xs.length ≤ 1048576) (k : Nat) (hk : xs.length < k) : laws_eqIntS.f k xs xs = some true := by
  unfold laws_eqIntS.f
  rw [if_pos rfl]
  exact eqIntS_l xs hb xs.length 0 k (by omega) hk

/-! ways, compared -/
theorem rdIWay (xs : List S159) (i : Nat) (h : i < xs.length) : rd_T159 xs (i : Int) = xs[i] := by simp [rd_T159, List.getD, h]
theorem eqWayS_l (xs : List S159) (hb : xs.length ≤ 1048576) (hw : ∀ x ∈ xs, x.f0.length ≤ 1048576) : ∀ (d i k : Nat), i + d = xs.length → d + 1048577 < k → laws_eqWayS.l0 k xs xs (i : Int) = some true := by
  intro d
  induction d with
  | zero =>
    intro i k h hk
    obtain ⟨k, rfl⟩ := ksucc (show 0 < k by omega)
    simp only [laws_eqWayS.l0]
    rw [if_neg (by omega)]
  | succ d ih =>
    intro i k h hk
    obtain ⟨k, rfl⟩ := ksucc (show 0 < k by omega)
    have hi : i < xs.length := by omega
    have hwi := hw _ (List.getElem_mem hi)
    simp only [laws_eqWayS.l0]
    rw [if_pos (by omega), if_pos (by omega), if_pos (by omega), rdIWay xs i hi]
    unfold laws_eqWay.f
    rw [eqIntS_ev _ hwi k (by omega)]
    simp only [Option.bind_some]
    rw [if_pos trivial]
    simp only [Option.bind_some]
    rw [if_pos trivial, wnat (by omega)]
    exact ih (i + 1) k (by omega) (by omega)
theorem eqWayS_ev (xs : List S159) (hb : xs.length ≤ 1048576) (hw : ∀ x ∈ xs, x.f0.length ≤ 1048576) (k : Nat) (hk : xs.length + 1048577 < k) : laws_eqWayS.f k xs xs = some true := by
  unfold laws_eqWayS.f
  rw [if_pos rfl]
  exact eqWayS_l xs hb hw xs.length 0 k (by omega) hk

/-! a yard, compared with itself -/
theorem eqYard_ev (k : Nat) (w h : Int) (s : ByteArray) (a b c z : Int) (rs : List S89) (d e : Int) (ws : List Int) (f : Int) (g : Bool) (l m : Int) (ways : List S159) (js : List S103) (gs : List Int)
    (hrs : rs.length ≤ 1048576) (hws : ws.length ≤ 1048576) (hwz : ways.length ≤ 1048576) (hww : ∀ x ∈ ways, x.f0.length ≤ 1048576) (hjs : js.length ≤ 1048576) (hgs : gs.length ≤ 1048576) (hk : 2097153 < k) :
    laws_eqYard.f k w h s a b c z rs d e ws f g l m ways js gs w h s a b c z rs d e ws f g l m ways js gs = some true := by
  unfold laws_eqYard.f laws_eqSetup.f laws_eqGrid.f laws_eqWindow.f laws_eqPlan.f
  rw [eqRobotS_ev rs hrs k (by omega), eqIntS_ev ws hws k (by omega), eqWayS_ev ways hwz hww k (by omega), eqJobS_ev js hjs k (by omega), eqIntS_ev gs hgs k (by omega)]
  simp

/-! the layer of a yard -/
open Go.Proofs.Ytomchkdbhcakoaa.MyHof in
theorem layer_tail (js : List S103) (w h : Int) (s : ByteArray) (a b c z : Int) (rs : List S89) (d e : Int) (ws : List Int) (f : Int) (g : Bool) (l m : Int) (ways : List S159) (gs : List Int) (hb : js.length ≤ 1048576) :
    ∀ (n i k : Nat) (y : S103), i + n = js.length → 0 < i → n < k → spec_LayerOf.l0 k y.f1 (i : Int) w h s a b c z rs d e ws f g l m ways js gs = some (((js.drop i).foldl (fun m y => if y.f1 < m.f1 then y else m) y).f1) := by
  intro n
  induction n with
  | zero =>
    intro i k y hi _ hk
    obtain ⟨k, rfl⟩ := ksucc hk
    rw [spec_LayerOf.l0, if_neg (by omega), List.drop_eq_nil_of_le (by omega)]
    rfl
  | succ n ih =>
    intro i k y hi h0 hk
    obtain ⟨k, rfl⟩ := ksucc hk
    have hij : i < js.length := by omega
    rw [spec_LayerOf.l0, if_pos (by omega), if_neg (by omega), if_pos (by omega), rdIJob js i hij, wnat (i := i) (by omega), List.drop_eq_getElem_cons hij, List.foldl_cons]
    by_cases h1 : js[i].f1 < y.f1
    · rw [if_pos h1, if_pos h1]
      exact ih (i + 1) k js[i] (by omega) (by omega) (by omega)
    · rw [if_neg h1, if_neg h1]
      exact ih (i + 1) k y (by omega) (by omega) (by omega)
open Go.Proofs.Ytomchkdbhcakoaa.MyHof in
theorem layer_same (js : List S103) (w h : Int) (s : ByteArray) (a b c z : Int) (rs : List S89) (d e : Int) (ws : List Int) (f : Int) (g : Bool) (l m : Int) (ways : List S159) (gs : List Int) (hb : js.length ≤ 1048576) (k : Nat) (hk : js.length < k) :
    spec_LayerOf.f k w h s a b c z rs d e ws f g l m ways js gs = impl_LayerOf.f w h s a b c z rs d e ws f g l m ways js gs := by
  unfold spec_LayerOf.f impl_LayerOf.f
  obtain ⟨k, rfl⟩ := ksucc (show 0 < k by omega)
  cases js with
  | nil => rw [spec_LayerOf.l0, if_neg (by simp)]; rfl
  | cons x t =>
    have hl : (x :: t).length = t.length + 1 := rfl
    have e1 : rd_T103 (x :: t) 0 = x := rfl
    have := layer_tail (x :: t) w h s a b c z rs d e ws f g l m ways gs hb t.length 1 k x (by omega) (by omega) (by omega)
    rw [spec_LayerOf.l0, if_pos (by omega), if_pos rfl, if_pos (by omega), e1, show wrap64 (0 + 1) = ((1 : Nat) : Int) from w64 (by omega) (by omega), this, if_neg (by omega)]
    rfl
theorem FnExactLayerOf : OpFnExactLayerOf.Pure := by
  rintro ⟨⟨⟨w, h, s⟩, a, b, c, z⟩, rs, ⟨d, e, ws⟩, f, g, ⟨l, m, ways⟩, js, gs⟩ ⟨⟨⟨_, _, hs⟩, _⟩, ⟨hrs, _⟩, ⟨_, _, hws, _⟩, _, _, ⟨_, _, hwz, hww⟩, ⟨hjs, _⟩, hgs, _⟩
  simp only at hs hrs hws hwz hww hjs hgs
  obtain ⟨K, hK1, hK2, hK⟩ : ∃ K, js.length < K ∧ ways.length < K ∧ 2097153 < K := ⟨js.length + ways.length + 2097200, by omega, by omega, by omega⟩
  refine ⟨K, ?_⟩
  unfold laws_FnExactLayerOf.f
  obtain ⟨t, e1, e2⟩ := szYard_ev K w h s a b c z rs d e ws f g l m ways js gs hs hrs hws hwz (fun x hx => (hww x hx).1) hjs hgs (by omega)
  simp only [e1, Option.bind_some]
  by_cases ht : t < 0
  · rw [if_pos ht]
  obtain ⟨b0, b1, b2, b3, b4, b5, b6⟩ := e2 (by omega)
  rw [if_neg ht, toYard_ev _ w h s a b c z rs d e ws f g l m ways js gs b1 b2 b3 b4 b5 b6 hK]
  simp only [Option.bind_some]
  rw [layer_same (js.map cvJob) w h s a b c z (rs.map cvRobot) d e ws f g l m (ways.map cvWay) gs (by simpa using b5) K (by rw [List.length_map]; omega)]
  unfold impl_LayerOf.f
  simp only [Option.bind_some]
  first | rw [if_pos trivial] | rw [if_neg (by simp)]
  rw [eqYard_ev _ w h s a b c z _ d e ws f g l m _ _ gs (by simpa using b1) b2 (by simpa using b3) (by intro x hx; obtain ⟨y, hy, rfl⟩ := List.mem_map.1 hx; exact b4 y hy) (by simpa using b5) b6 hK]
  rfl

end Go.Proofs.Ytomchkdbhcakoaa.Pure
