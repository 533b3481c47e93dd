/- The law FnExactFootprint over numbers and lists alone: it answers true for every input; no condition beside the bounds of the kinds. -/
import Derived.Test.YtaddjeoncbmohaaMFnExactFootprintx
import Derived.Test.YtaddjeoncbmohaaOpFnExactFootprint
namespace Go.Proofs.Ytaddjeoncbmohaa.Pure
open Go.RowKit Go.Proofs.Ytaddjeoncbmohaa.MFnExactFootprint Go.Proofs.YtaddjeoncbmohaaW.PrintWords Go.Proofs.YtaddjeoncbmohaaW.PrintLast Go.Proofs.Ytaddjeoncbmohaa
set_option linter.unusedVariables false
set_option linter.unusedSimpArgs false

theorem w64 {x : Int} (h1 : -9223372036854775808 ≤ x) (h2 : x ≤ 9223372036854775807) : wrap64 x = x := by unfold wrap64; omega
theorem wnat {i : Nat} (h : i < 4611686018427387904) : wrap64 ((i : Int) + 1) = ((i + 1 : Nat) : Int) := by unfold wrap64; omega
theorem ksucc {k d : Nat} (h : d < k) : ∃ m, k = m + 1 := ⟨k - 1, by omega⟩

theorem fill_step {α β : Type} (f : α → β) (z : β) (xs : List α) (i d : Nat) (h : i + (d + 1) = xs.length) (hi : i < xs.length) :
    ((xs.take i).map f ++ List.replicate (d + 1) z).set i (f xs[i]) = (xs.take (i + 1)).map f ++ List.replicate d z := by
  have hl : ((xs.take i).map f).length = i := by simp; omega
  rw [List.replicate_succ, List.set_append_right _ _ (by omega), hl, Nat.sub_self, List.set_cons_zero, List.take_succ_eq_append_getElem hi, List.map_append]
  simp

/-! Robots, made of what came in -/
def cvRobot (y : S132) : S36 := ⟨y.f0, y.f1, y.f2, y.f3⟩
theorem rdLRobot (xs : List S132) (i : Nat) (h : i < xs.length) : rd_T132 xs (i : Int) = xs[i] := by simp [rd_T132, List.getD, h]
theorem toRobotS_l (xs : List S132) (hb : xs.length ≤ 1048576) : ∀ (d i k : Nat), i + d = xs.length → d < k →
    laws_toRobotS.l0 k xs ((xs.take i).map cvRobot ++ List.replicate d z36) (i : Int) = some (xs.map cvRobot) := by
  intro d
  induction d with
  | zero =>
    intro i k h hk
    obtain ⟨k, rfl⟩ := ksucc hk
    simp only [laws_toRobotS.l0]
    rw [if_neg (by omega), List.take_of_length_le (by omega)]
    simp
  | succ d ih =>
    intro i k h hk
    obtain ⟨k, rfl⟩ := ksucc hk
    have hi : i < xs.length := by omega
    simp only [laws_toRobotS.l0, laws_toRobot.f, Option.bind_some]
    rw [if_pos (by omega), if_pos (by omega), if_pos (by simp; omega), rdLRobot xs i hi, wnat (by omega)]
    have e : (i : Int).toNat = i := by simp
    rw [e]
    exact (congrArg (fun z => laws_toRobotS.l0 k xs z ((i + 1 : Nat) : Int)) (fill_step cvRobot z36 xs i d h hi)).trans (ih (i + 1) k (by omega) (by omega))
theorem toRobotS_ev (xs : List S132) (hb : xs.length ≤ 1048576) (k : Nat) (hk : xs.length < k) : laws_toRobotS.f k xs = some (xs.map cvRobot) := by
  unfold laws_toRobotS.f
  rw [if_pos (by omega), if_pos (by omega)]
  have := toRobotS_l xs hb xs.length 0 k (by omega) hk
  simpa using this

/-! lists of numbers, made of what came in -/
theorem rdT (xs : List Int) (i : Nat) (h : i < xs.length) : rd xs (i : Int) = xs[i] := by simp [rd, List.getD, h]
theorem toIntS_l (xs : List Int) (hb : xs.length ≤ 1048576) : ∀ (d i k : Nat), i + d = xs.length → d < k →
    laws_toIntS.l0 k xs ((xs.take i).map id ++ List.replicate d 0) (i : Int) = some xs := by
  intro d
  induction d with
  | zero =>
    intro i k h hk
    obtain ⟨k, rfl⟩ := ksucc hk
    simp only [laws_toIntS.l0]
    rw [if_neg (by omega), List.take_of_length_le (by omega)]
    simp
  | succ d ih =>
    intro i k h hk
    obtain ⟨k, rfl⟩ := ksucc hk
    have hi : i < xs.length := by omega
    simp only [laws_toIntS.l0]
    rw [if_pos (by omega), if_pos (by omega), if_pos (by simp; omega), rdT xs i hi, wnat (by omega)]
    have e : (i : Int).toNat = i := by simp
    rw [e]
    exact (congrArg (fun z => laws_toIntS.l0 k xs z ((i + 1 : Nat) : Int)) (fill_step id 0 xs i d h hi)).trans (ih (i + 1) k (by omega) (by omega))
theorem toIntS_ev (xs : List Int) (hb : xs.length ≤ 1048576) (k : Nat) (hk : xs.length < k) : laws_toIntS.f k xs = some xs := by
  unfold laws_toIntS.f
  rw [if_pos (by omega), if_pos (by omega)]
  have := toIntS_l xs hb xs.length 0 k (by omega) hk
  simpa using this

/-! ways, made of what came in -/
def cvWay (y : S158) : S95 := ⟨y.f0⟩
theorem rdLWay (xs : List S158) (i : Nat) (h : i < xs.length) : rd_T158 xs (i : Int) = xs[i] := by simp [rd_T158, List.getD, h]
theorem toWayS_l (xs : List S158) (hb : xs.length ≤ 1048576) (hw : ∀ x ∈ xs, x.f0.length ≤ 1048576) : ∀ (d i k : Nat), i + d = xs.length → d + 1048577 < k →
    laws_toWayS.l0 k xs ((xs.take i).map cvWay ++ List.replicate d z95) (i : Int) = some (xs.map cvWay) := by
  intro d
  induction d with
  | zero =>
    intro i k h hk
    obtain ⟨k, rfl⟩ := ksucc (show 0 < k by omega)
    simp only [laws_toWayS.l0]
    rw [if_neg (by omega), List.take_of_length_le (by omega)]
    simp
  | succ d ih =>
    intro i k h hk
    obtain ⟨k, rfl⟩ := ksucc (show 0 < k by omega)
    have hi : i < xs.length := by omega
    have hwi := hw _ (List.getElem_mem hi)
    simp only [laws_toWayS.l0]
    rw [if_pos (by omega), if_pos (by omega), rdLWay xs i hi]
    unfold laws_toWay.f
    rw [toIntS_ev _ hwi k (by omega)]
    simp only [Option.bind_some]
    rw [if_pos (by simp; omega), wnat (by omega)]
    have e : (i : Int).toNat = i := by simp
    rw [e]
    exact (congrArg (fun z => laws_toWayS.l0 k xs z ((i + 1 : Nat) : Int)) (fill_step cvWay z95 xs i d h hi)).trans (ih (i + 1) k (by omega) (by omega))
theorem toWayS_ev (xs : List S158) (hb : xs.length ≤ 1048576) (hw : ∀ x ∈ xs, x.f0.length ≤ 1048576) (k : Nat) (hk : xs.length + 1048577 < k) : laws_toWayS.f k xs = some (xs.map cvWay) := by
  unfold laws_toWayS.f
  rw [if_pos (by omega), if_pos (by omega)]
  have := toWayS_l xs hb hw xs.length 0 k (by omega) hk
  simpa using this

/-! Jobs, made of what came in -/
def cvJob (y : S135) : S93 := ⟨y.f0, y.f1, y.f2⟩
theorem rdLJob (xs : List S135) (i : Nat) (h : i < xs.length) : rd_T135 xs (i : Int) = xs[i] := by simp [rd_T135, List.getD, h]
theorem toJobS_l (xs : List S135) (hb : xs.length ≤ 1048576) : ∀ (d i k : Nat), i + d = xs.length → d < k →
    laws_toJobS.l0 k xs ((xs.take i).map cvJob ++ List.replicate d z93) (i : Int) = some (xs.map cvJob) := by
  intro d
  induction d with
  | zero =>
    intro i k h hk
    obtain ⟨k, rfl⟩ := ksucc hk
    simp only [laws_toJobS.l0]
    rw [if_neg (by omega), List.take_of_length_le (by omega)]
    simp
  | succ d ih =>
    intro i k h hk
    obtain ⟨k, rfl⟩ := ksucc hk
    have hi : i < xs.length := by omega
    simp only [laws_toJobS.l0, laws_toJob.f, Option.bind_some]
    rw [if_pos (by omega), if_pos (by omega), if_pos (by simp; omega), rdLJob xs i hi, wnat (by omega)]
    have e : (i : Int).toNat = i := by simp
    rw [e]
    exact (congrArg (fun z => laws_toJobS.l0 k xs z ((i + 1 : Nat) : Int)) (fill_step cvJob z93 xs i d h hi)).trans (ih (i + 1) k (by omega) (by omega))
theorem toJobS_ev (xs : List S135) (hb : xs.length ≤ 1048576) (k : Nat) (hk : xs.length < k) : laws_toJobS.f k xs = some (xs.map cvJob) := by
  unfold laws_toJobS.f
  rw [if_pos (by omega), if_pos (by omega)]
  have := toJobS_l xs hb xs.length 0 k (by omega) hk
  simpa using this

/-! a yard, made of what came in -/
theorem toYard_ev (k : Nat) (w h : Int) (s : ByteArray) (a b c z : Int) (rs : List S132) (d e : Int) (ws : List Int) (f : Int) (g : Bool) (l m : Int) (ways : List S158) (js : List S135) (gs : List Int)
    (hrs : rs.length ≤ 1048576) (hws : ws.length ≤ 1048576) (hwz : ways.length ≤ 1048576) (hww : ∀ x ∈ ways, x.f0.length ≤ 1048576) (hjs : js.length ≤ 1048576) (hgs : gs.length ≤ 1048576) (hk : 2097153 < k) :
    laws_toYard.f k w h s a b c z rs d e ws f g l m ways js gs = some (w, h, s, a, b, c, z, rs.map cvRobot, d, e, ws, f, g, l, m, ways.map cvWay, js.map cvJob, gs) := by
  unfold laws_toYard.f laws_toSetup.f laws_toGrid.f laws_toWindow.f laws_toPlan.f
  rw [toRobotS_ev rs hrs k (by omega), toIntS_ev ws hws k (by omega), toWayS_ev ways hwz hww k (by omega), toJobS_ev js hjs k (by omega), toIntS_ev gs hgs k (by omega)]
  rfl

/-! the size of a yard -/
theorem rdZWay (xs : List S158) (i : Nat) (h : i < xs.length) : rd_T158 xs (i : Int) = xs[i] := by simp [rd_T158, List.getD, h]
theorem szWayS_l (xs : List S158) (hb : xs.length ≤ 1048576) (hw : ∀ x ∈ xs, x.f0.length * 8 ≤ 140737488351232) : ∀ (d i k : Nat) (b : Int), i + d = xs.length → d < k → 0 ≤ b → b ≤ 1048576 →
    ∃ t, laws_szWayS.l0 k xs b (i : Int) = some t ∧ t ≤ b ∧ (0 ≤ t → ∀ j (hj : j < xs.length), i ≤ j → xs[j].f0.length ≤ 1048576) ∧ (0 ≤ t → ((((xs.drop i).map fun x => x.f0.length).sum : Nat) : Int) ≤ b - t) := by
  intro d
  induction d with
  | zero =>
    intro i k b h hk h0 h1
    obtain ⟨k, rfl⟩ := ksucc hk
    rw [laws_szWayS.l0, if_neg (by omega)]
    exact ⟨b, rfl, by omega, fun _ j hj hij => by omega, fun _ => by rw [List.drop_eq_nil_of_le (by omega)]; simp⟩
  | succ d ih =>
    intro i k b h hk h0 h1
    obtain ⟨k, rfl⟩ := ksucc hk
    have hi : i < xs.length := by omega
    have hwi := hw _ (List.getElem_mem hi)
    rw [laws_szWayS.l0, if_pos (by omega), if_pos (by omega), rdZWay xs i hi]
    unfold laws_szWay.f laws_szIntS.f
    rw [w64 (x := b - _) (by omega) (by omega), wnat (i := i) (by omega)]
    by_cases h2 : b - (xs[i].f0.length : Int) < 0
    · rw [if_pos h2]
      exact ⟨-1, rfl, by omega, fun h => by omega, fun h => by omega⟩
    · rw [if_neg h2]
      simp only [Option.bind_some]
      rw [if_neg h2]
      simp only [Option.bind_some]
      rw [if_neg h2]
      obtain ⟨t, e, h3, h4, h5⟩ := ih (i + 1) k (b - (xs[i].f0.length : Int)) (by omega) (by omega) (by omega) (by omega)
      refine ⟨t, e, by omega, fun ht j hj hij => ?_, fun ht => ?_⟩
      · by_cases hij' : i = j
        · subst hij'; omega
        · exact h4 ht j hj (by omega)
      · have h6 := h5 ht
        rw [List.drop_eq_getElem_cons hi, List.map_cons, List.sum_cons]
        omega
theorem szWayS_ev (xs : List S158) (hz : xs.length * 24 ≤ 140737488351232) (hw : ∀ x ∈ xs, x.f0.length * 8 ≤ 140737488351232) (k : Nat) (hk : xs.length < k) (b : Int) (h0 : 0 ≤ b) (h1 : b ≤ 1048576) :
    ∃ t, laws_szWayS.f k xs b = some t ∧ t ≤ b ∧ (0 ≤ t → (xs.length ≤ 1048576 ∧ (xs.map fun x => x.f0.length).sum ≤ 1048576) ∧ ∀ x ∈ xs, x.f0.length ≤ 1048576) := by
  unfold laws_szWayS.f
  rw [w64 (by omega) (by omega)]
  by_cases h2 : b - (xs.length : Int) < 0
  · rw [if_pos h2]
    exact ⟨-1, rfl, by omega, fun h => by omega⟩
  · rw [if_neg h2]
    obtain ⟨t, e, h3, h4, h5⟩ := szWayS_l xs (by omega) hw xs.length 0 k (b - xs.length) (by omega) hk (by omega) (by omega)
    refine ⟨t, e, by omega, fun ht => ⟨⟨by omega, by have h6 := h5 ht; rw [List.drop_zero] at h6; omega⟩, fun x hx => ?_⟩⟩
    obtain ⟨j, hj, rfl⟩ := List.mem_iff_getElem.1 hx
    exact h4 ht j hj (by omega)
theorem szYard_ev (k : Nat) (w h : Int) (s : ByteArray) (a b c z : Int) (rs : List S132) (d e : Int) (ws : List Int) (f : Int) (g : Bool) (l m : Int) (ways : List S158) (js : List S135) (gs : List Int)
    (hs : s.size ≤ 140737488351232) (hrs : rs.length * 32 ≤ 140737488351232) (hws : ws.length * 8 ≤ 140737488351232) (hwz : ways.length * 24 ≤ 140737488351232) (hww : ∀ x ∈ ways, x.f0.length * 8 ≤ 140737488351232) (hjs : js.length * 24 ≤ 140737488351232) (hgs : gs.length * 8 ≤ 140737488351232) (hk : ways.length < k) :
    ∃ t, laws_szYard.f k w h s a b c z rs d e ws f g l m ways js gs 1048576 = some t ∧
      (0 ≤ t → s.size ≤ 1048576 ∧ rs.length ≤ 1048576 ∧ ws.length ≤ 1048576 ∧ (ways.length ≤ 1048576 ∧ (ways.map fun x => x.f0.length).sum ≤ 1048576) ∧ (∀ x ∈ ways, x.f0.length ≤ 1048576) ∧ js.length ≤ 1048576 ∧ gs.length ≤ 1048576) := by
  unfold laws_szYard.f laws_szSetup.f laws_szGrid.f laws_szRobotS.f laws_szWindow.f laws_szPlan.f laws_szJobS.f laws_szIntS.f
  rw [w64 (x := 1048576 - _) (by omega) (by omega)]
  have bad : ∀ (o : Option Int) (P : Prop), o = some (-1) → ∃ t, o = some t ∧ (0 ≤ t → P) := fun o P e => ⟨-1, e, fun h => by omega⟩
  by_cases h1 : 1048576 - (s.size : Int) < 0
  · refine bad _ _ ?_; simp [h1]
  simp only [if_neg h1, Option.bind_some]
  rw [w64 (x := 1048576 - (s.size : Int) - _) (by omega) (by omega)]
  by_cases h2 : 1048576 - (s.size : Int) - (rs.length : Int) < 0
  · refine bad _ _ ?_; simp [h2]
  simp only [if_neg h2, Option.bind_some]
  rw [w64 (x := 1048576 - (s.size : Int) - (rs.length : Int) - _) (by omega) (by omega)]
  by_cases h3 : 1048576 - (s.size : Int) - (rs.length : Int) - (ws.length : Int) < 0
  · refine bad _ _ ?_; simp [h3]
  simp only [if_neg h3, Option.bind_some]
  obtain ⟨t, e1, e2, e3⟩ := szWayS_ev ways hwz hww k hk (1048576 - (s.size : Int) - (rs.length : Int) - (ws.length : Int)) (by omega) (by omega)
  rw [e1]
  simp only [Option.bind_some]
  by_cases h4 : t < 0
  · refine bad _ _ ?_; simp [h4]
  simp only [if_neg h4, Option.bind_some]
  obtain ⟨e4, e5⟩ := e3 (by omega)
  rw [w64 (x := t - _) (by omega) (by omega)]
  by_cases h5 : t - (js.length : Int) < 0
  · refine bad _ _ ?_; simp [h5]
  simp only [if_neg h5, Option.bind_some]
  rw [w64 (x := t - (js.length : Int) - _) (by omega) (by omega)]
  by_cases h6 : t - (js.length : Int) - (gs.length : Int) < 0
  · refine bad _ _ ?_; simp [h6]
  simp only [if_neg h6, Option.bind_some]
  exact ⟨_, rfl, fun _ => ⟨by omega, by omega, by omega, e4, e5, by omega, by omega⟩⟩

/-! lists of numbers, compared -/
theorem rdN (xs : List Int) (i : Nat) (h : i < xs.length) : rd xs (i : Int) = xs[i] := by simp [rd, List.getD, h]
theorem eqIntS_l (xs : List Int) (hb : xs.length ≤ 16777216) : ∀ (d i k : Nat), i + d = xs.length → d < k → laws_eqIntS.l0 k xs xs (i : Int) = some true := by
  intro d
  induction d with
  | zero =>
    intro i k h hk
    obtain ⟨k, rfl⟩ := ksucc hk
    rw [laws_eqIntS.l0, if_neg (by omega)]
  | succ d ih =>
    intro i k h hk
    obtain ⟨k, rfl⟩ := ksucc hk
    rw [laws_eqIntS.l0, if_pos (by omega), if_pos (by omega), if_pos (by omega), if_pos rfl, wnat (by omega)]
    exact ih (i + 1) k (by omega) (by omega)
theorem eqIntS_ev (xs : List Int) (hb : xs.length ≤ 16777216) (k : Nat) (hk : xs.length < k) : laws_eqIntS.f k xs xs = some true := by
  unfold laws_eqIntS.f
  rw [if_pos rfl]
  exact eqIntS_l xs hb xs.length 0 k (by omega) hk

/-! lists of numbers, marked -/
def nums1 (n m : Nat) : List Int := (List.range' n m).map fun (i : Nat) => (i : Int)
theorem nums1_length (n m : Nat) : (nums1 n m).length = m := by simp [nums1]
theorem nums1_get (n m i : Nat) (h : i < (nums1 n m).length) : (nums1 n m)[i] = ((n + i : Nat) : Int) := by simp [nums1]
theorem nums1_snoc (n m : Nat) : nums1 n (m + 1) = nums1 n m ++ [((n + m : Nat) : Int)] := by simp [nums1, List.range'_concat]
theorem markIntS_l (xs : List Int) (n : Nat) (hn : n ≤ 1125899906842624) (hb : xs.length ≤ 16777216) : ∀ (d i k : Nat), i + d = xs.length → d < k →
    laws_markIntS.l0 k (nums1 n i ++ xs.drop i) ((n + i : Nat) : Int) (i : Int) = some (((n + xs.length : Nat) : Int), nums1 n xs.length) := by
  intro d
  induction d with
  | zero =>
    intro i k h hk
    obtain ⟨k, rfl⟩ := ksucc hk
    have e : i = xs.length := by omega
    subst e
    have hl : (nums1 n xs.length ++ xs.drop xs.length).length = xs.length := by simp [nums1_length]
    rw [laws_markIntS.l0, if_neg (by rw [hl]; omega)]
    simp
  | succ d ih =>
    intro i k h hk
    obtain ⟨k, rfl⟩ := ksucc hk
    have hi : i < xs.length := by omega
    have hml := nums1_length n i
    have hl : (nums1 n i ++ xs.drop i).length = xs.length := by simp [hml]; omega
    rw [laws_markIntS.l0, if_pos (by rw [hl]; omega), if_pos (by omega)]
    have e0 : (i : Int).toNat = i := by omega
    rw [e0, wnat (i := n + i) (by omega), wnat (i := i) (by omega), List.drop_eq_getElem_cons hi, List.set_append_right _ _ (by omega), hml, Nat.sub_self, List.set_cons_zero]
    have e1 : nums1 n i ++ ((n + i : Nat) : Int) :: xs.drop (i + 1) = nums1 n (i + 1) ++ xs.drop (i + 1) := by rw [nums1_snoc, List.append_assoc]; rfl
    rw [e1]
    exact ih (i + 1) k (by omega) (by omega)
theorem markIntS_ev (xs : List Int) (n : Nat) (hn : n ≤ 1125899906842624) (hb : xs.length ≤ 16777216) (k : Nat) (hk : xs.length < k) : laws_markIntS.f k xs (n : Int) = some (((n + xs.length : Nat) : Int), nums1 n xs.length) := by
  have := markIntS_l xs n hn hb xs.length 0 k (by omega) hk
  simpa [laws_markIntS.f, nums1] using this

/-! ints, held -/
theorem heldIntS_l (n m : Nat) (hn : n ≤ 1125899906842624) (hb : m ≤ 16777216) : ∀ (d i k : Nat), i + d = m → d < k →
    laws_heldIntS.l0 k (nums1 n m) ((n + i : Nat) : Int) (i : Int) = some ((n + m : Nat) : Int) := by
  intro d
  have hml := nums1_length n m
  induction d with
  | zero =>
    intro i k h hk
    obtain ⟨k, rfl⟩ := ksucc hk
    have e : i = m := by omega
    subst e
    rw [laws_heldIntS.l0, if_neg (by omega)]
  | succ d ih =>
    intro i k h hk
    obtain ⟨k, rfl⟩ := ksucc hk
    rw [laws_heldIntS.l0, if_pos (by omega), if_pos (by omega), rdN _ i (by omega), nums1_get, if_pos rfl, wnat (i := n + i) (by omega), wnat (i := i) (by omega)]
    exact ih (i + 1) k (by omega) (by omega)
theorem heldIntS_ev (n m : Nat) (hn : n ≤ 1125899906842624) (hb : m ≤ 16777216) (k : Nat) (hk : m < k) : laws_heldIntS.f k (nums1 n m) (n : Int) = some ((n + m : Nat) : Int) := by
  have := heldIntS_l n m hn hb m 0 k (by omega) hk
  simpa [laws_heldIntS.f] using this

/-! Robots, compared -/
theorem rdIRobot (xs : List S36) (i : Nat) (h : i < xs.length) : rd_T36 xs (i : Int) = xs[i] := by simp [rd_T36, List.getD, h]
theorem eqRobot_refl (x0 : Int) (x1 : Int) (x2 : Int) (x3 : Bool) : laws_eqRobot.f x0 x1 x2 x3 x0 x1 x2 x3 = some true := by simp [laws_eqRobot.f]
theorem eqRobotS_l (xs : List S36) (hb : xs.length ≤ 1048576) : ∀ (d i k : Nat), i + d = xs.length → d < k → laws_eqRobotS.l0 k xs xs (i : Int) = some true := by
  intro d
  induction d with
  | zero =>
    intro i k h hk
    obtain ⟨k, rfl⟩ := ksucc hk
    simp only [laws_eqRobotS.l0]
    rw [if_neg (by omega)]
  | succ d ih =>
    intro i k h hk
    obtain ⟨k, rfl⟩ := ksucc hk
    simp only [laws_eqRobotS.l0, eqRobot_refl, Option.bind_some]
    rw [if_pos (by omega), if_pos (by omega), if_pos (by omega), if_pos trivial, wnat (by omega)]
    exact ih (i + 1) k (by omega) (by omega)
theorem eqRobotS_ev (xs : List S36) (hb : xs.length ≤ 1048576) (k : Nat) (hk : xs.length < k) : laws_eqRobotS.f k xs xs = some true := by
  unfold laws_eqRobotS.f
  rw [if_pos rfl]
  exact eqRobotS_l xs hb xs.length 0 k (by omega) hk

/-! ways, compared -/
theorem rdIWay (xs : List S95) (i : Nat) (h : i < xs.length) : rd_T95 xs (i : Int) = xs[i] := by simp [rd_T95, List.getD, h]
theorem eqWayS_l (xs : List S95) (hb : xs.length ≤ 1048576) (hw : ∀ x ∈ xs, x.f0.length ≤ 1048576) : ∀ (d i k : Nat), i + d = xs.length → d + 1048577 < k → laws_eqWayS.l0 k xs xs (i : Int) = some true := by
  intro d
  induction d with
  | zero =>
    intro i k h hk
    obtain ⟨k, rfl⟩ := ksucc (show 0 < k by omega)
    simp only [laws_eqWayS.l0]
    rw [if_neg (by omega)]
  | succ d ih =>
    intro i k h hk
    obtain ⟨k, rfl⟩ := ksucc (show 0 < k by omega)
    have hi : i < xs.length := by omega
    have hwi := hw _ (List.getElem_mem hi)
    simp only [laws_eqWayS.l0]
    rw [if_pos (by omega), if_pos (by omega), if_pos (by omega), rdIWay xs i hi]
    unfold laws_eqWay.f
    rw [eqIntS_ev _ (by omega) k (by omega)]
    simp only [Option.bind_some]
    rw [if_pos trivial]
    simp only [Option.bind_some]
    rw [if_pos trivial, wnat (by omega)]
    exact ih (i + 1) k (by omega) (by omega)
theorem eqWayS_ev (xs : List S95) (hb : xs.length ≤ 1048576) (hw : ∀ x ∈ xs, x.f0.length ≤ 1048576) (k : Nat) (hk : xs.length + 1048577 < k) : laws_eqWayS.f k xs xs = some true := by
  unfold laws_eqWayS.f
  rw [if_pos rfl]
  exact eqWayS_l xs hb hw xs.length 0 k (by omega) hk

/-! Jobs, compared -/
theorem rdIJob (xs : List S93) (i : Nat) (h : i < xs.length) : rd_T93 xs (i : Int) = xs[i] := by simp [rd_T93, List.getD, h]
theorem eqJob_refl (x0 : Int) (x1 : Int) (x2 : Bool) : laws_eqJob.f x0 x1 x2 x0 x1 x2 = some true := by simp [laws_eqJob.f]
theorem eqJobS_l (xs : List S93) (hb : xs.length ≤ 1048576) : ∀ (d i k : Nat), i + d = xs.length → d < k → laws_eqJobS.l0 k xs xs (i : Int) = some true := by
  intro d
  induction d with
  | zero =>
    intro i k h hk
    obtain ⟨k, rfl⟩ := ksucc hk
    simp only [laws_eqJobS.l0]
    rw [if_neg (by omega)]
  | succ d ih =>
    intro i k h hk
    obtain ⟨k, rfl⟩ := ksucc hk
    simp only [laws_eqJobS.l0, eqJob_refl, Option.bind_some]
    rw [if_pos (by omega), if_pos (by omega), if_pos (by omega), if_pos trivial, wnat (by omega)]
    exact ih (i + 1) k (by omega) (by omega)
theorem eqJobS_ev (xs : List S93) (hb : xs.length ≤ 1048576) (k : Nat) (hk : xs.length < k) : laws_eqJobS.f k xs xs = some true := by
  unfold laws_eqJobS.f
  rw [if_pos rfl]
  exact eqJobS_l xs hb xs.length 0 k (by omega) hk

/-! a yard, compared with itself -/
theorem eqYard_ev (k : Nat) (w h : Int) (s : ByteArray) (a b c z : Int) (rs : List S36) (d e : Int) (ws : List Int) (f : Int) (g : Bool) (l m : Int) (ways : List S95) (js : List S93) (gs : List Int)
    (hrs : rs.length ≤ 1048576) (hws : ws.length ≤ 1048576) (hwz : ways.length ≤ 1048576) (hww : ∀ x ∈ ways, x.f0.length ≤ 1048576) (hjs : js.length ≤ 1048576) (hgs : gs.length ≤ 1048576) (hk : 2097153 < k) :
    laws_eqYard.f k w h s a b c z rs d e ws f g l m ways js gs w h s a b c z rs d e ws f g l m ways js gs = some true := by
  unfold laws_eqYard.f laws_eqSetup.f laws_eqGrid.f laws_eqWindow.f laws_eqPlan.f
  rw [eqRobotS_ev rs hrs k (by omega), eqIntS_ev ws (by omega) k (by omega), eqWayS_ev ways hwz hww k (by omega), eqJobS_ev js hjs k (by omega), eqIntS_ev gs (by omega) k (by omega)]
  simp

/-! marking a yard that is given away: some number comes out -/
theorem markRobotA : ∀ (d i k : Nat) (xs : List S36) (v : Int), i + d = xs.length → d < k → xs.length ≤ 16777216 → 0 ≤ v → v + 4 * d ≤ 1125899906842624 → ∃ ys, laws_markRobotS.l0 k xs v (i : Int) = some (v + 4 * d, ys) := by
  intro d
  induction d with
  | zero =>
    intro i k xs v h hk _ hv _
    obtain ⟨k, rfl⟩ := ksucc hk
    exact ⟨xs, by rw [laws_markRobotS.l0, if_neg (by omega)]; simp⟩
  | succ d ih =>
    intro i k xs v h hk hl hv hv2
    obtain ⟨k, rfl⟩ := ksucc hk
    rw [laws_markRobotS.l0, if_pos (by omega), if_pos (by omega), wnat (i := i) (by omega), w64 (x := v + 1) (by omega) (by omega), w64 (x := v + 1 + 1) (by omega) (by omega), w64 (x := v + 1 + 1 + 1) (by omega) (by omega), w64 (x := v + 1 + 1 + 1 + 1) (by omega) (by omega)]
    simp only [Option.bind_some]
    suffices H : ∀ zs : List S36, zs.length = xs.length → ∃ ys, laws_markRobotS.l0 k zs (v + 1 + 1 + 1 + 1) ((i + 1 : Nat) : Int) = some (v + 4 * ((d + 1 : Nat) : Int), ys) from H _ (by simp)
    intro zs hz
    obtain ⟨ys, e⟩ := ih (i + 1) k zs (v + 1 + 1 + 1 + 1) (by omega) (by omega) (by omega) (by omega) (by omega)
    exact ⟨ys, e.trans (by congr 2; omega)⟩
theorem markJobA : ∀ (d i k : Nat) (xs : List S93) (v : Int), i + d = xs.length → d < k → xs.length ≤ 16777216 → 0 ≤ v → v + 3 * d ≤ 1125899906842624 → ∃ ys, laws_markJobS.l0 k xs v (i : Int) = some (v + 3 * d, ys) := by
  intro d
  induction d with
  | zero =>
    intro i k xs v h hk _ hv _
    obtain ⟨k, rfl⟩ := ksucc hk
    exact ⟨xs, by rw [laws_markJobS.l0, if_neg (by omega)]; simp⟩
  | succ d ih =>
    intro i k xs v h hk hl hv hv2
    obtain ⟨k, rfl⟩ := ksucc hk
    rw [laws_markJobS.l0, if_pos (by omega), if_pos (by omega), wnat (i := i) (by omega), w64 (x := v + 1) (by omega) (by omega), w64 (x := v + 1 + 1) (by omega) (by omega), w64 (x := v + 1 + 1 + 1) (by omega) (by omega)]
    simp only [Option.bind_some]
    suffices H : ∀ zs : List S93, zs.length = xs.length → ∃ ys, laws_markJobS.l0 k zs (v + 1 + 1 + 1) ((i + 1 : Nat) : Int) = some (v + 3 * ((d + 1 : Nat) : Int), ys) from H _ (by simp)
    intro zs hz
    obtain ⟨ys, e⟩ := ih (i + 1) k zs (v + 1 + 1 + 1) (by omega) (by omega) (by omega) (by omega) (by omega)
    exact ⟨ys, e.trans (by congr 2; omega)⟩
theorem markIntA (xs : List Int) (v : Int) (hv : 0 ≤ v) (hv2 : v ≤ 562949953421312) (hb : xs.length ≤ 16777216) (k : Nat) (hk : xs.length < k) : ∃ ys, laws_markIntS.f k xs v = some (v + xs.length, ys) := by
  obtain ⟨n, rfl⟩ : ∃ n : Nat, v = n := ⟨v.toNat, by omega⟩
  exact ⟨_, (markIntS_ev xs n (by omega) hb k hk).trans (by congr 2)⟩
theorem markWayA (k : Nat) (hk : 1048576 < k) : ∀ (ways : List S95) (v : Int), 0 ≤ v → v + ways.length * 1048576 ≤ 562949953421312 → (∀ x ∈ ways, x.f0.length ≤ 1048576) → ∃ r, laws_markWayS.l k ways v = some r ∧ v ≤ r ∧ r ≤ v + ways.length * 1048576 := by
  intro ways
  induction ways with
  | nil => exact fun v hv _ _ => ⟨v, rfl, by omega, by simp⟩
  | cons x t ih =>
    intro v hv hv2 hx
    rw [List.length_cons] at hv2 ⊢
    have hx1 := hx x (by simp)
    obtain ⟨ys, e⟩ := markIntA x.f0 v hv (by omega) (by omega) k (by omega)
    obtain ⟨r, e2, h1, h2⟩ := ih (v + x.f0.length) (by omega) (by omega) (fun y hy => hx y (by simp [hy]))
    refine ⟨r, ?_, by omega, by omega⟩
    rw [laws_markWayS.l, e, Option.bind_some]
    exact e2
theorem markYardA (k : Nat) (w h : Int) (s : ByteArray) (a b c z : Int) (rs : List S36) (d e : Int) (ws : List Int) (f : Int) (g : Bool) (l m : Int) (ways : List S95) (js : List S93) (gs : List Int)
    (hrs : rs.length ≤ 1048576) (hws : ws.length ≤ 1048576) (hwz : ways.length ≤ 1048576) (hww : ∀ x ∈ ways, x.f0.length ≤ 1048576) (hjs : js.length ≤ 1048576) (hgs : gs.length ≤ 1048576) (hk : 2097153 < k) :
    ∃ r, laws_markYard.f k w h s a b c z rs d e ws f g l m ways js gs 1 = some r ∧ 0 ≤ r := by
  unfold laws_markYard.f laws_markWindow.f laws_markPlan.f laws_markWayS.f laws_markRobotS.f laws_markJobS.f
  obtain ⟨y1, e1⟩ := markRobotA rs.length 0 k rs 1 (by omega) (by omega) (by omega) (by omega) (by omega)
  rw [show ((0 : Nat) : Int) = 0 from rfl] at e1
  rw [e1]
  simp only [Option.bind_some]
  obtain ⟨y2, e2⟩ := markIntA ws (1 + 4 * rs.length) (by omega) (by omega) (by omega) k (by omega)
  rw [e2]
  simp only [Option.bind_some]
  obtain ⟨r3, e3, h3, h4⟩ := markWayA k (by omega) ways (1 + 4 * rs.length + ws.length) (by omega) (by omega) hww
  rw [e3]
  simp only [Option.bind_some]
  obtain ⟨y4, e4⟩ := markJobA js.length 0 k js r3 (by omega) (by omega) (by omega) (by omega) (by omega)
  rw [show ((0 : Nat) : Int) = 0 from rfl] at e4
  rw [e4]
  simp only [Option.bind_some]
  obtain ⟨y5, e5⟩ := markIntA gs (r3 + 3 * js.length) (by omega) (by omega) (by omega) k (by omega)
  rw [e5]
  exact ⟨_, rfl, by omega⟩

/-! sorted lists, compacted -/
theorem asc_ext : ∀ {a b : List Int}, a.Pairwise (· < ·) → b.Pairwise (· < ·) → (∀ x, x ∈ a ↔ x ∈ b) → a = b
  | [], [], _, _, _ => rfl
  | [], y :: b, _, _, h => absurd ((h y).2 (by simp)) (by simp)
  | x :: a, [], _, _, h => absurd ((h x).1 (by simp)) (by simp)
  | x :: a, y :: b, ha, hb, h => by
    rw [List.pairwise_cons] at ha hb
    have hxy : x = y := by
      rcases List.mem_cons.1 ((h x).1 (by simp)) with e | h1
      · exact e
      · rcases List.mem_cons.1 ((h y).2 (by simp)) with e | h2
        · exact e.symm
        · have := hb.1 x h1; have := ha.1 y h2; omega
    subst hxy
    have := asc_ext ha.2 hb.2 (fun z => by
      have hz := h z
      simp only [List.mem_cons] at hz
      constructor
      · intro hm
        rcases hz.1 (.inr hm) with e | h3
        · have := ha.1 z hm; omega
        · exact h3
      · intro hm
        rcases hz.2 (.inr hm) with e | h3
        · have := hb.1 z hm; omega
        · exact h3)
    rw [this]
theorem comp_inv (d : Array Int) (hs : ∀ i j, i ≤ j → j < d.size → d[i]! ≤ d[j]!) : ∀ m, m ≤ d.size →
    (Lib.compactUpTo d m).Pairwise (· < ·) ∧ (∀ x, x ∈ Lib.compactUpTo d m ↔ ∃ j, j < m ∧ d[j]! = x) := by
  intro m
  induction m with
  | zero => intro _; exact ⟨by simp [Lib.compactUpTo], fun x => by simp [Lib.compactUpTo]⟩
  | succ m ih =>
    intro hm
    obtain ⟨h1, h2⟩ := ih (by omega)
    rw [Lib.compactUpTo_succ]
    by_cases hk : Lib.keeps d m = true
    · rw [if_pos hk]
      have hk' : m = 0 ∨ d[m]! ≠ d[m - 1]! := by simpa [Lib.keeps] using hk
      refine ⟨List.pairwise_append.2 ⟨h1, by simp, fun x hx y hy => ?_⟩, fun x => ?_⟩
      · rw [List.mem_singleton] at hy
        subst hy
        obtain ⟨j, hj, rfl⟩ := (h2 x).1 hx
        have a1 := hs j (m - 1) (by omega) (by omega)
        have a2 := hs (m - 1) m (by omega) (by omega)
        rcases hk' with e | e
        · omega
        · omega
      · rw [List.mem_append, List.mem_singleton, h2]
        constructor
        · rintro (⟨j, hj, e⟩ | rfl)
          · exact ⟨j, by omega, e⟩
          · exact ⟨m, by omega, rfl⟩
        · rintro ⟨j, hj, e⟩
          by_cases hjm : j = m
          · subst hjm; exact .inr e.symm
          · exact .inl ⟨j, by omega, e⟩
    · rw [if_neg hk, List.append_nil]
      have hk' : ¬ (m = 0 ∨ d[m]! ≠ d[m - 1]!) := by simpa [Lib.keeps] using hk
      refine ⟨h1, fun x => ?_⟩
      rw [h2]
      constructor
      · rintro ⟨j, hj, e⟩; exact ⟨j, by omega, e⟩
      · rintro ⟨j, hj, e⟩
        by_cases hjm : j = m
        · subst hjm
          exact ⟨j - 1, by omega, by have : d[j]! = d[j - 1]! := by by_cases h : d[j]! = d[j - 1]!; exact h; exact absurd (Or.inr h) hk'
                                     rw [← this]; exact e⟩
        · exact ⟨j, by omega, e⟩
theorem compact_sorted (l : List Int) : (Lib.compact (l.mergeSort fun x y => decide (x ≤ y))).Pairwise (· < ·) ∧ ∀ x, x ∈ Lib.compact (l.mergeSort fun x y => decide (x ≤ y)) ↔ x ∈ l := by
  obtain ⟨s, hs⟩ : ∃ s, s = l.mergeSort fun x y => decide (x ≤ y) := ⟨_, rfl⟩
  have hp : s.Pairwise (fun x y => decide (x ≤ y) = true) := by
    rw [hs]
    exact List.pairwise_mergeSort (fun a b c h1 h2 => by simp only [decide_eq_true_eq] at *; omega) (fun a b => by simp only [Bool.or_eq_true, decide_eq_true_eq]; omega) l
  have hm : ∀ x, x ∈ s ↔ x ∈ l := fun x => by rw [hs]; exact (List.mergeSort_perm l _).mem_iff
  rw [← hs]
  have hsz : s.toArray.size = s.length := by simp
  have := comp_inv s.toArray (fun i j hij hj => by
    have hj' : j < s.length := by simpa using hj
    by_cases e : i = j
    · subst e; exact Int.le_refl _
    · have h3 := List.pairwise_iff_getElem.1 hp i j (by omega) hj' (by omega)
      simp only [decide_eq_true_eq] at h3
      simpa [List.getElem!_toArray, getElem!_pos, show i < s.length by omega, hj'] using h3) s.length (by simp)
  unfold Lib.compact
  refine ⟨this.1, fun x => ?_⟩
  rw [this.2, ← hm]
  constructor
  · rintro ⟨j, hj, rfl⟩
    simp [hj]
  · intro hx
    obtain ⟨j, hj, rfl⟩ := List.mem_iff_getElem.1 hx
    exact ⟨j, hj, by simp [hj]⟩

/-! the reference's merge sort that drops equals -/
def pushL (out : List Int) (x : Int) : List Int := if out.getLast? = some x then out else out ++ [x]
theorem rdS (xs : List Int) (i : Nat) (h : i < xs.length) : rd xs (i : Int) = xs[i] := by simp [rd, List.getD, h]
theorem push_eq {β : Type} (G : List Int → Option β) (out : List Int) (x : Int) (hb : out.length ≤ 67108864) :
    (if (out.length : Int) = 0 then (if out.length < 17592186044416 then G (out ++ [x]) else none) else (if 0 ≤ (wrap64 ((out.length : Int) - 1)) then (if (wrap64 ((out.length : Int) - 1)) < (out.length : Int) then (if (rd out (wrap64 ((out.length : Int) - 1))) = x then G out else (if out.length < 17592186044416 then G (out ++ [x]) else none)) else none) else none)) = G (pushL out x) := by
  by_cases h : out.length = 0
  · have e : out = [] := List.length_eq_zero_iff.1 h
    subst e
    simp [pushL]
  · have e1 : wrap64 ((out.length : Int) - 1) = ((out.length - 1 : Nat) : Int) := by rw [w64 (by omega) (by omega)]; omega
    rw [if_neg (by omega), e1, if_pos (by omega), if_pos (by omega), rdS out (out.length - 1) (by omega)]
    have e2 : out.getLast? = some (out[out.length - 1]'(by omega)) := by rw [List.getLast?_eq_getElem?, List.getElem?_eq_getElem (by omega)]
    unfold pushL
    rw [e2]
    by_cases h2 : out[out.length - 1]'(by omega) = x
    · rw [if_pos h2, if_pos (by rw [h2])]
    · rw [if_neg h2, if_pos (by omega), if_neg (by simpa using h2)]
theorem push_mem (out : List Int) (x y : Int) : y ∈ pushL out x ↔ y ∈ out ∨ y = x := by
  unfold pushL
  split
  · next h =>
    have := List.mem_of_getLast? h
    constructor
    · exact .inl
    · rintro (h1 | rfl)
      · exact h1
      · exact this
  · simp
theorem push_asc (out : List Int) (x : Int) (ha : out.Pairwise (· < ·)) (hl : ∀ y ∈ out, y ≤ x) : (pushL out x).Pairwise (· < ·) := by
  unfold pushL
  split
  · exact ha
  · next h =>
    refine List.pairwise_append.2 ⟨ha, by simp, fun y hy z hz => ?_⟩
    rw [List.mem_singleton] at hz
    subst hz
    have h1 := hl y hy
    by_cases e : y = z
    · subst e
      exfalso
      obtain ⟨i, hi, rfl⟩ := List.mem_iff_getElem.1 hy
      apply h
      rw [List.getLast?_eq_getElem?, List.getElem?_eq_getElem (by omega)]
      by_cases e2 : i = out.length - 1
      · subst e2; rfl
      · have h3 := List.pairwise_iff_getElem.1 ha i (out.length - 1) hi (by omega) (by omega)
        have h4 := hl _ (List.getElem_mem (show out.length - 1 < out.length by omega))
        omega
    · omega
theorem push_len (out : List Int) (x : Int) : (pushL out x).length ≤ out.length + 1 := by
  unfold pushL
  split <;> simp
theorem merge_l (a b : List Int) (ha : a.Pairwise (· < ·)) (hb : b.Pairwise (· < ·)) (la : a.length ≤ 16777216) (lb : b.length ≤ 16777216) : ∀ (n i j k : Nat) (out : List Int), i ≤ a.length → j ≤ b.length → (a.length - i) + (b.length - j) = n → 3 * n + 3 ≤ k → out.length ≤ i + j →
    out.Pairwise (· < ·) → (∀ x ∈ out, (∀ y ∈ a.drop i, x ≤ y) ∧ (∀ y ∈ b.drop j, x ≤ y)) →
    ∃ r, spec_l11Sorted.l0 k a b out (i : Int) (j : Int) = some r ∧ r.Pairwise (· < ·) ∧ r.length ≤ out.length + n ∧ ∀ x, x ∈ r ↔ x ∈ out ∨ x ∈ a.drop i ∨ x ∈ b.drop j := by
  intro n
  induction n with
  | zero =>
    intro i j k out hi hj hn hk hl ho hx
    obtain ⟨k, rfl⟩ := ksucc (show 0 < k by omega)
    obtain ⟨k, rfl⟩ := ksucc (show 0 < k by omega)
    rw [spec_l11Sorted.l0, if_neg (by omega), decide_eq_false (by omega), spec_l11Sorted.j1, if_neg (by simp)]
    refine ⟨out, rfl, ho, by omega, fun x => ?_⟩
    rw [List.drop_eq_nil_of_le (by omega), List.drop_eq_nil_of_le (by omega)]
    simp
  | succ n ih =>
    intro i j k out hi hj hn hk hl ho hx
    obtain ⟨k, rfl⟩ := ksucc (show 0 < k by omega)
    obtain ⟨k, rfl⟩ := ksucc (show 0 < k by omega)
    obtain ⟨k, rfl⟩ := ksucc (show 0 < k by omega)
    have e0 : spec_l11Sorted.l0 (k + 1 + 1 + 1) a b out (i : Int) (j : Int) = spec_l11Sorted.j1 (k + 1 + 1) a b out (i : Int) (j : Int) true := by
      rw [spec_l11Sorted.l0]
      by_cases h : (i : Int) < a.length
      · rw [if_pos h]
      · rw [if_neg h, decide_eq_true (by omega)]
    have takeA : ∀ (h : i < a.length), (∀ y ∈ b.drop j, a[i] ≤ y) → ∃ r, spec_l11Sorted.j2 (k + 1) a b out (i : Int) (j : Int) true = some r ∧ r.Pairwise (· < ·) ∧ r.length ≤ out.length + (n + 1) ∧ ∀ x, x ∈ r ↔ x ∈ out ∨ x ∈ a.drop i ∨ x ∈ b.drop j := by
      intro h hle
      rw [spec_l11Sorted.j2, if_pos rfl, if_pos (by omega), if_pos (by omega), rdS a i h, wnat (i := i) (by omega), push_eq (fun o => spec_l11Sorted.l0 k a b o ((i + 1 : Nat) : Int) (j : Int)) out a[i] (by omega)]
      have hd := List.drop_eq_getElem_cons h
      have hpa := ha.drop (i := i)
      rw [hd, List.pairwise_cons] at hpa
      obtain ⟨r, h1, h2, hL, h3⟩ := ih (i + 1) j k (pushL out a[i]) (by omega) hj (by omega) (by omega) (by have := push_len out a[i]; omega)
        (push_asc out _ ho (fun y hy => (hx y hy).1 _ (by rw [hd]; exact List.mem_cons_self)))
        (fun x hxm => by
          rcases (push_mem out _ x).1 hxm with h4 | rfl
          · exact ⟨fun y hy => (hx x h4).1 y (by rw [hd]; exact List.mem_cons_of_mem _ hy), (hx x h4).2⟩
          · exact ⟨fun y hy => by have := hpa.1 y hy; omega, hle⟩)
      refine ⟨r, h1, h2, by have := push_len out a[i]; omega, fun x => ?_⟩
      rw [h3, push_mem, hd, List.mem_cons]
      constructor
      · rintro ((h | h) | h | h)
        · exact .inl h
        · exact .inr (.inl (.inl h))
        · exact .inr (.inl (.inr h))
        · exact .inr (.inr h)
      · rintro (h | (h | h) | h)
        · exact .inl (.inl h)
        · exact .inl (.inr h)
        · exact .inr (.inl h)
        · exact .inr (.inr h)
    have takeB : ∀ (h : j < b.length), (∀ y ∈ a.drop i, b[j] ≤ y) → ∃ r, spec_l11Sorted.j2 (k + 1) a b out (i : Int) (j : Int) false = some r ∧ r.Pairwise (· < ·) ∧ r.length ≤ out.length + (n + 1) ∧ ∀ x, x ∈ r ↔ x ∈ out ∨ x ∈ a.drop i ∨ x ∈ b.drop j := by
      intro h hle
      rw [spec_l11Sorted.j2, if_neg (by simp), if_pos (by omega), if_pos (by omega), rdS b j h, wnat (i := j) (by omega), push_eq (fun o => spec_l11Sorted.l0 k a b o (i : Int) ((j + 1 : Nat) : Int)) out b[j] (by omega)]
      have hd := List.drop_eq_getElem_cons h
      have hpa := hb.drop (i := j)
      rw [hd, List.pairwise_cons] at hpa
      obtain ⟨r, h1, h2, hL, h3⟩ := ih i (j + 1) k (pushL out b[j]) hi (by omega) (by omega) (by omega) (by have := push_len out b[j]; omega)
        (push_asc out _ ho (fun y hy => (hx y hy).2 _ (by rw [hd]; exact List.mem_cons_self)))
        (fun x hxm => by
          rcases (push_mem out _ x).1 hxm with h4 | rfl
          · exact ⟨(hx x h4).1, fun y hy => (hx x h4).2 y (by rw [hd]; exact List.mem_cons_of_mem _ hy)⟩
          · exact ⟨hle, fun y hy => by have := hpa.1 y hy; omega⟩)
      refine ⟨r, h1, h2, by have := push_len out b[j]; omega, fun x => ?_⟩
      rw [h3, push_mem, hd, List.mem_cons]
      constructor
      · rintro ((h | h) | h | h)
        · exact .inl h
        · exact .inr (.inr (.inl h))
        · exact .inr (.inl h)
        · exact .inr (.inr (.inr h))
      · rintro (h | h | (h | h))
        · exact .inl (.inl h)
        · exact .inr (.inl h)
        · exact .inl (.inr h)
        · exact .inr (.inr h)
    rw [e0, spec_l11Sorted.j1, if_pos rfl]
    by_cases hjb : b.length ≤ j
    · rw [if_pos (by omega)]
      exact takeA (by omega) (fun y hy => by rw [List.drop_eq_nil_of_le hjb] at hy; simp at hy)
    · rw [if_neg (by omega)]
      by_cases hia : i < a.length
      · rw [if_pos (by omega), if_pos (by omega), if_pos (by omega), if_pos (by omega), rdS a i hia, rdS b j (by omega)]
        have hdA := List.drop_eq_getElem_cons hia
        have hdB := List.drop_eq_getElem_cons (show j < b.length by omega)
        have pA := ha.drop (i := i)
        have pB := hb.drop (i := j)
        rw [hdA, List.pairwise_cons] at pA
        rw [hdB, List.pairwise_cons] at pB
        by_cases hc : a[i] ≤ b[j]'(by omega)
        · rw [decide_eq_true hc]
          exact takeA hia (fun y hy => by rw [hdB, List.mem_cons] at hy; rcases hy with rfl | hy; exact hc; have := pB.1 y hy; omega)
        · rw [decide_eq_false hc]
          exact takeB (by omega) (fun y hy => by rw [hdA, List.mem_cons] at hy; rcases hy with rfl | hy; omega; have := pA.1 y hy; omega)
      · rw [if_neg (by omega)]
        exact takeB (by omega) (fun y hy => by rw [List.drop_eq_nil_of_le (by omega)] at hy; simp at hy)
theorem sorted_ev : ∀ (N : Nat) (l : List Int) (k : Nat), l.length ≤ N → l.length ≤ 16777216 → 4 * N + 10 ≤ k →
    ∃ r, spec_l11Sorted.f k l = some r ∧ r.Pairwise (· < ·) ∧ r.length ≤ l.length ∧ (∀ x, x ∈ r ↔ x ∈ l) := by
  intro N
  induction N with
  | zero =>
    intro l k h hb hk
    obtain ⟨k, rfl⟩ := ksucc (show 0 < k by omega)
    have e : l = [] := List.length_eq_zero_iff.1 (by omega)
    subst e
    exact ⟨[], by rw [spec_l11Sorted.f, if_pos (by simp)]; rfl, by simp, by simp, by simp⟩
  | succ N ih =>
    intro l k h hb hk
    obtain ⟨k, rfl⟩ := ksucc (show 0 < k by omega)
    by_cases h2 : (l.length : Int) < 2
    · refine ⟨l, by rw [spec_l11Sorted.f, if_pos h2]; simp; omega, ?_, Nat.le_refl _, by simp⟩
      match l, h2 with
      | [], _ => simp
      | [x], _ => simp
      | x :: y :: t, h2 => simp at h2; omega
    · have e1 : wrap64 ((l.length : Int) / 2) = ((l.length / 2 : Nat) : Int) := by rw [w64 (by omega) (by omega)]; omega
      obtain ⟨a, a1, a2, aL, a3⟩ := ih (l.take (l.length / 2)) k (by rw [List.length_take]; omega) (by rw [List.length_take]; omega) (by omega)
      obtain ⟨b, b1, b2, bL, b3⟩ := ih (l.drop (l.length / 2)) k (by rw [List.length_drop]; omega) (by rw [List.length_drop]; omega) (by omega)
      rw [List.length_take] at aL
      rw [List.length_drop] at bL
      obtain ⟨r, r1, r2, rL, r3⟩ := merge_l a b a2 b2 (by omega) (by omega) (a.length + b.length) 0 0 k [] (by omega) (by omega) (by omega) (by omega) (by simp) (by simp) (by simp)
      refine ⟨r, ?_, r2, by simp at rL; omega, fun x => ?_⟩
      · rw [spec_l11Sorted.f, if_neg h2, e1, if_pos (by omega), if_pos (by omega), Int.toNat_natCast, a1, Option.bind_some, b1, Option.bind_some]
        exact r1
      · rw [r3, List.drop_zero, List.drop_zero, a3, b3]
        constructor
        · rintro (h | h | h)
          · simp at h
          · exact List.mem_of_mem_take h
          · exact List.mem_of_mem_drop h
        · intro h
          rw [← List.take_append_drop (l.length / 2) l, List.mem_append] at h
          rcases h with h | h
          · exact .inr (.inl h)
          · exact .inr (.inr h)
theorem sorted_same (l : List Int) (hb : l.length ≤ 16777216) (k : Nat) (hk : 4 * l.length + 10 ≤ k) : spec_l11Sorted.f k l = some (Lib.compact (l.mergeSort fun x y => decide (x ≤ y))) := by
  obtain ⟨r, h1, h2, _, h3⟩ := sorted_ev l.length l k (Nat.le_refl _) hb hk
  obtain ⟨h4, h5⟩ := compact_sorted l
  rw [h1, asc_ext h2 h4 (fun x => by rw [h3, h5])]

theorem cells_l (xs : List S95) (hb : xs.length ≤ 1048576) : ∀ (d i k : Nat) (out : List Int), i + d = xs.length → d + 4194400 < k → out.length + ((xs.drop i).map fun x => x.f0.length).sum ≤ 1048576 →
    ∃ r, spec_CellsUsed.l0 k xs out (i : Int) = some r ∧ impl_CellsUsed.l0 k out xs (xs.length : Int) (i : Int) = some r ∧ r.length ≤ 1048576 := by
  intro d
  induction d with
  | zero =>
    intro i k out h hk ho
    obtain ⟨k, rfl⟩ := ksucc (show 0 < k by omega)
    have ho2 : out.length ≤ 1048576 := by omega
    refine ⟨_, by rw [spec_CellsUsed.l0, if_neg (by omega), sorted_same out (by omega) k (by omega)]; rfl, by rw [impl_CellsUsed.l0, if_neg (by omega)]; unfold impl_ordered.f; rw [if_pos (by omega)]; rfl, ?_⟩
    have h1 := Lib.compact_length_le (out.mergeSort fun x y => decide (x ≤ y))
    rw [List.length_mergeSort] at h1
    omega
  | succ d ih =>
    intro i k out h hk ho
    obtain ⟨k, rfl⟩ := ksucc (show 0 < k by omega)
    have hi : i < xs.length := by omega
    rw [List.drop_eq_getElem_cons hi, List.map_cons, List.sum_cons] at ho
    obtain ⟨r, e1, e2, e3⟩ := ih (i + 1) k (out ++ xs[i].f0) (by omega) (by omega) (by rw [List.length_append]; omega)
    refine ⟨r, ?_, ?_, e3⟩
    · rw [spec_CellsUsed.l0, if_pos (by omega), if_pos (by omega), rdIWay xs i hi, if_pos (by omega), wnat (by omega)]
      exact e1
    · rw [impl_CellsUsed.l0, if_pos (by omega), if_pos (by omega), if_pos (by omega), rdIWay xs i hi, if_pos (by omega), wnat (by omega)]
      exact e2
theorem cells_ev (xs : List S95) (hb : xs.length ≤ 1048576) (hT : (xs.map fun x => x.f0.length).sum ≤ 1048576) : ∃ r : List Int, r.length ≤ 1048576 ∧ ∀ k, 8000000 < k → spec_CellsUsed.f k xs = some r ∧ impl_CellsUsed.f k xs = some r := by
  obtain ⟨k0, h0⟩ : ∃ k0, k0 = 8000001 := ⟨_, rfl⟩
  obtain ⟨r, u1, u2, u3⟩ := cells_l xs hb xs.length 0 k0 [] (by omega) (by omega) (by rw [List.drop_zero]; simpa using hT)
  have v1 : spec_CellsUsed.f k0 xs = some r := u1
  have v2 : impl_CellsUsed.f k0 xs = some r := u2
  exact ⟨r, u3, fun k hk => ⟨at_rounds (g := fun k => spec_CellsUsed.f k xs) (fun k => spec_CellsUsed.mono _ k) (by omega) v1, at_rounds (g := fun k => impl_CellsUsed.f k xs) (fun k => impl_CellsUsed.mono _ k) (by omega) v2⟩⟩
theorem foot_same (w h : Int) (s : ByteArray) (a b c z : Int) (rs : List S36) (d e : Int) (ws : List Int) (f : Int) (g : Bool) (l m : Int) (ways : List S95) (js : List S93) (gs : List Int)
    (hw : ways.length ≤ 1048576) (hT : (ways.map fun x => x.f0.length).sum ≤ 1048576) : ∃ r : List Int, r.length ≤ 1048576 ∧ (∀ k, 8000000 < k → spec_Footprint.f k w h s a b c z rs d e ws f g l m ways js gs = some r) ∧ ∀ k, 8000000 < k → impl_Footprint.f k w h s a b c z rs d e ws f g l m ways js gs = some r := by
  obtain ⟨xs, hx, hu⟩ := cells_ev ways hw hT
  cases g with
  | false => exact ⟨[], by simp, fun k hk => by unfold spec_Footprint.f; rw [if_neg (by decide)], fun k hk => by unfold impl_Footprint.f; rw [if_neg (by decide)]⟩
  | true => exact ⟨xs, hx, fun k hk => by unfold spec_Footprint.f; rw [if_pos rfl, (hu k hk).1]; rfl, fun k hk => by unfold impl_Footprint.f; rw [if_pos rfl, (hu k hk).2]; rfl⟩
theorem FnExactFootprint : OpFnExactFootprint.Pure := by
  rintro ⟨⟨⟨w, h, s⟩, a, b, c, z⟩, rs, ⟨d, e, ws⟩, f, g, ⟨l, m, ways⟩, js, gs⟩ ⟨⟨⟨_, _, hs⟩, _⟩, ⟨hrs, _⟩, ⟨_, _, hws, _⟩, _, _, ⟨_, _, hwz, hww⟩, ⟨hjs, _⟩, hgs, _⟩
  simp only at hs hrs hws hwz hww hjs hgs
  obtain ⟨K, hK1, hK⟩ : ∃ K, ways.length < K ∧ 9000001 < K := ⟨ways.length + 9000002, by omega, by omega⟩
  refine ⟨K + 1, ?_⟩
  unfold laws_FnExactFootprint.f
  obtain ⟨t, e1, e2⟩ := szYard_ev (K + 1) w h s a b c z rs d e ws f g l m ways js gs hs hrs hws hwz (fun x hx => (hww x hx).1) hjs hgs (by omega)
  simp only [e1, Option.bind_some]
  by_cases ht : t < 0
  · rw [if_pos ht]
  obtain ⟨b0, b1, b2, ⟨b3, bT⟩, b4, b5, b6⟩ := e2 (by omega)
  obtain ⟨r, hr, sp, ip⟩ := foot_same w h s a b c z (rs.map cvRobot) d e ws f g l m (ways.map cvWay) (js.map cvJob) gs (by simpa using b3) (by rw [List.map_map]; exact bT)
  obtain ⟨y, my1, my2⟩ := markYardA (K + 1) w h s a b c z (rs.map cvRobot) d e ws f g l m (ways.map cvWay) (js.map cvJob) gs (by simpa using b1) b2 (by simpa using b3) (by intro x hx; obtain ⟨y, hy, rfl⟩ := List.mem_map.1 hx; exact b4 y hy) (by simpa using b5) b6 (by omega)
  have eqy := eqYard_ev (K + 1) w h s a b c z (rs.map cvRobot) d e ws f g l m (ways.map cvWay) (js.map cvJob) gs (by simpa using b1) b2 (by simpa using b3) (by intro x hx; obtain ⟨y, hy, rfl⟩ := List.mem_map.1 hx; exact b4 y hy) (by simpa using b5) b6 (by omega)
  have ty := fun k hk => toYard_ev k w h s a b c z rs d e ws f g l m ways js gs b1 b2 b3 b4 b5 b6 hk
  have mk := markIntS_ev r 1 (by omega) (by omega) K (by omega)
  rw [show ((1 : Nat) : Int) = 1 from rfl] at mk
  have hd := heldIntS_ev 1 r.length (by omega) (by omega) K (by omega)
  rw [show ((1 : Nat) : Int) = 1 from rfl] at hd
  rw [if_neg ht, ty _ (by omega)]
  simp only [Option.bind_some]
  rw [sp (K + 1) (by omega)]
  simp only [Option.bind_some]
  rw [ip (K + 1) (by omega)]
  simp only [Option.bind_some]
  rw [eqIntS_ev r (by omega) (K + 1) (by omega)]
  simp only [Option.bind_some, if_true]
  rw [eqy]
  simp only [Option.bind_some, if_true]
  rw [my1]
  simp only [Option.bind_some]
  rw [if_neg (by omega)]
  simp only [Bool.not_true]
  rw [laws_FnExactFootprint.j0, if_neg (by simp), mk]
  simp only [Option.bind_some]
  rw [hd]
  simp only [Option.bind_some]
  rw [if_neg (by omega), if_pos trivial, ty K (by omega)]
  simp only [Option.bind_some]
  rw [ip K (by omega)]
  simp only [Option.bind_some]
  rw [eqIntS_ev r (by omega) K (by omega)]
  simp only [Option.bind_some, if_true]
  rw [if_neg (by omega)]

end Go.Proofs.Ytaddjeoncbmohaa.Pure
