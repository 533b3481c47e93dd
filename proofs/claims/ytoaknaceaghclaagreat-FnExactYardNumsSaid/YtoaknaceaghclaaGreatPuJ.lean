/- Plain laws about what the functions compute: yards made of what comes in, weighed and compared. -/
import Derived.Test.YtoaknaceaghclaaGreatPuI
namespace Go.Proofs.YtoaknaceaghclaaGreat.Pu
open Go Go.Av Go.Proofs Go.Proofs.YtoaknaceaghclaaGreat.V
set_option linter.unusedVariables false
set_option linter.unusedSimpArgs false
theorem fill_gen {α β : Type} (f : α → β) (z : β) (xs : List α) (hx : xs.length ≤ 16777216) (L : Nat → List β → Int → Option (List β)) (C : Nat)
    (h1 : ∀ kq out i (hi : i < xs.length), C ≤ kq → out.length = xs.length → L (kq + 1) out (i : Int) = L kq (out.set i (f xs[i])) (w64 ((i : Int) + 1))) (h2 : ∀ kq out, C ≤ kq → L (kq + 1) out (xs.length : Int) = some out) :
    ∀ k, C + xs.length < k → L k (List.replicate xs.length z) 0 = some (xs.map f) := by
  have go : ∀ (d i k : Nat), i + d = xs.length → C + d < k → L k ((xs.take i).map f ++ List.replicate d z) (i : Int) = some (xs.map f) := by
    intro d
    induction d with
    | zero =>
      intro i k hi hk
      obtain ⟨k, rfl⟩ := ks hk
      obtain rfl : i = xs.length := by omega
      rw [h2 k _ (by omega), List.take_length]
      simp
    | succ d ih =>
      intro i k hi hk
      obtain ⟨k, rfl⟩ := ks hk
      have hil : i < xs.length := by omega
      rw [h1 k _ i hil (by omega) (by simp; omega), wn (by omega)]
      have hl : ((xs.take i).map f).length = i := by simp; omega
      rw [List.replicate_succ, List.set_append_right _ _ (by omega), hl, Nat.sub_self, List.set_cons_zero]
      have e : (xs.take i).map f ++ f xs[i] :: List.replicate d z = (xs.take (i + 1)).map f ++ List.replicate d z := by
        rw [List.take_succ_eq_append_getElem hil, List.map_append]
        simp
      rw [e]
      exact ih (i + 1) k (by omega) (by omega)
  intro k hk
  have := go xs.length 0 k (by omega) (by omega)
  simpa using this
def cvRobot (y : S113) : S69 := ⟨y.f0, y.f1, y.f2, y.f3⟩
def cvWay (y : S147) : S72 := ⟨y.f0⟩
def cvJob (y : S116) : S74 := ⟨y.f0, y.f1, y.f2⟩
def cvYard (y : S35) : S48 := ⟨⟨⟨y.f0.f0.f0, y.f0.f0.f1, y.f0.f0.f2⟩, y.f0.f1, y.f0.f2, y.f0.f3, y.f0.f4⟩, y.f1.map cvRobot, ⟨y.f2.f0, y.f2.f1, y.f2.f2⟩, y.f3, y.f4, ⟨y.f5.f0, y.f5.f1, y.f5.f2.map cvWay⟩, y.f6.map cvJob, y.f7⟩
theorem toInts (xs : List Int) (hx : xs.length ≤ 1048576) (k : Nat) (hk : 1100000 ≤ k) : laws_toIntS.f k xs = some xs := by
  unfold laws_toIntS.f
  rw [if_pos (by omega), if_pos (by omega), Int.toNat_natCast]
  have h := fill_gen id 0 xs (by omega) (fun k out v => laws_toIntS.l0 k xs out v) 0
    (fun kq out i hi _ ho => by show laws_toIntS.l0 (kq + 1) xs out _ = _; rw [laws_toIntS.l0, if_pos (by omega), if_pos (by omega), if_pos (by omega), rdn 0 xs i hi, Int.toNat_natCast]; rfl)
    (fun kq out _ => by show laws_toIntS.l0 (kq + 1) xs out _ = _; rw [laws_toIntS.l0, if_neg (by omega)]) k (by omega)
  rw [List.map_id] at h
  exact h
theorem toRobots (xs : List S113) (hx : xs.length ≤ 1048576) (k : Nat) (hk : 1100000 ≤ k) : laws_toRobotS.f k xs = some (xs.map cvRobot) := by
  unfold laws_toRobotS.f
  rw [if_pos (by omega), if_pos (by omega), Int.toNat_natCast]
  exact fill_gen cvRobot z69 xs (by omega) (fun k out v => laws_toRobotS.l0 k xs out v) 0
    (fun kq out i hi _ ho => by show laws_toRobotS.l0 (kq + 1) xs out _ = _; rw [laws_toRobotS.l0, if_pos (by omega), if_pos (by omega), rdn z113 xs i hi, laws_toRobot.f, Option.bind_some, if_pos (by omega), Int.toNat_natCast]; rfl)
    (fun kq out _ => by show laws_toRobotS.l0 (kq + 1) xs out _ = _; rw [laws_toRobotS.l0, if_neg (by omega)]) k (by omega)
theorem toJobs (xs : List S116) (hx : xs.length ≤ 1048576) (k : Nat) (hk : 1100000 ≤ k) : laws_toJobS.f k xs = some (xs.map cvJob) := by
  unfold laws_toJobS.f
  rw [if_pos (by omega), if_pos (by omega), Int.toNat_natCast]
  exact fill_gen cvJob z74 xs (by omega) (fun k out v => laws_toJobS.l0 k xs out v) 0
    (fun kq out i hi _ ho => by show laws_toJobS.l0 (kq + 1) xs out _ = _; rw [laws_toJobS.l0, if_pos (by omega), if_pos (by omega), rdn z116 xs i hi, laws_toJob.f, Option.bind_some, if_pos (by omega), Int.toNat_natCast]; rfl)
    (fun kq out _ => by show laws_toJobS.l0 (kq + 1) xs out _ = _; rw [laws_toJobS.l0, if_neg (by omega)]) k (by omega)
theorem toWays (xs : List S147) (hx : xs.length ≤ 1048576) (hw : ∀ w ∈ xs, w.f0.length ≤ 1048576) (k : Nat) (hk : 2300000 ≤ k) : laws_toWayS.f k xs = some (xs.map cvWay) := by
  unfold laws_toWayS.f
  rw [if_pos (by omega), if_pos (by omega), Int.toNat_natCast]
  exact fill_gen cvWay z72 xs (by omega) (fun k out v => laws_toWayS.l0 k xs out v) 1200000
    (fun kq out i hi hkq ho => by show laws_toWayS.l0 (kq + 1) xs out _ = _; rw [laws_toWayS.l0, if_pos (by omega), if_pos (by omega), rdn z147 xs i hi, laws_toWay.f, toInts _ (hw _ (List.getElem_mem hi)) kq (by omega), Option.bind_some, Option.bind_some, if_pos (by omega), Int.toNat_natCast]; rfl)
    (fun kq out _ => by show laws_toWayS.l0 (kq + 1) xs out _ = _; rw [laws_toWayS.l0, if_neg (by omega)]) k (by omega)
/-- The sizes of what comes in. -/
structure SizedIn (y : S35) : Prop where
  grid : y.f0.f0.f2.size ≤ 1048576
  robots : y.f1.length ≤ 1048576
  counts : y.f2.f2.length ≤ 1048576
  ways : y.f5.f2.length ≤ 1048576
  cells : ∀ w ∈ y.f5.f2, w.f0.length ≤ 1048576
  jobs : y.f6.length ≤ 1048576
  goals : y.f7.length ≤ 1048576
theorem SizedIn.out {y : S35} (h : SizedIn y) : Sized (cvYard y) := ⟨h.grid, by simpa [cvYard] using h.robots, h.counts, by simpa [cvYard] using h.ways, fun w hw => by
  obtain ⟨x, hx, rfl⟩ := List.mem_map.1 hw
  exact h.cells x hx, by simpa [cvYard] using h.jobs, h.goals⟩
theorem toYard {y : S35} (h : SizedIn y) (k : Nat) (hk : 2300000 ≤ k) : laws_toYard.f k y = some (cvYard y) := by
  unfold laws_toYard.f laws_toSetup.f laws_toGrid.f laws_toWindow.f laws_toPlan.f
  rw [toRobots _ h.robots k (by omega), toInts _ h.counts k (by omega), toWays _ h.ways h.cells k (by omega), toJobs _ h.jobs k (by omega), toInts _ h.goals k (by omega)]
  rfl
theorem szWays_l (xs : List S147) (hb : xs.length ≤ 1048576) (hw : ∀ x ∈ xs, x.f0.length * 8 ≤ 140737488351232) : ∀ (d i k : Nat) (b : Int), i + d = xs.length → d < k → 0 ≤ b → b ≤ 1048576 →
    ∃ t, laws_szWayS.l0 k xs b (i : Int) = some t ∧ t ≤ b ∧ (0 ≤ t → ∀ j (hj : j < xs.length), i ≤ j → xs[j].f0.length ≤ 1048576) := by
  intro d
  induction d with
  | zero =>
    intro i k b h hk h0 h1
    obtain ⟨k, rfl⟩ := ks hk
    rw [laws_szWayS.l0, if_neg (by omega)]
    exact ⟨b, rfl, by omega, fun _ j hj hij => by omega⟩
  | succ d ih =>
    intro i k b h hk h0 h1
    obtain ⟨k, rfl⟩ := ks hk
    have hi : i < xs.length := by omega
    have hwi := hw _ (List.getElem_mem hi)
    rw [laws_szWayS.l0, if_pos (by omega), if_pos (by omega), rdn z147 xs i hi]
    unfold laws_szWay.f laws_szIntS.f
    rw [w64e (x := b - _) (by omega) (by omega), wn (i := i) (by omega)]
    by_cases h2 : b - (xs[i].f0.length : Int) < 0
    · rw [if_pos h2]
      exact ⟨-1, rfl, by omega, fun h => by omega⟩
    · rw [if_neg h2]
      simp only [Option.bind_some]
      rw [if_neg h2]
      simp only [Option.bind_some]
      rw [if_neg h2]
      obtain ⟨t, e, h3, h4⟩ := ih (i + 1) k (b - (xs[i].f0.length : Int)) (by omega) (by omega) (by omega) (by omega)
      refine ⟨t, e, by omega, fun ht j hj hij => ?_⟩
      by_cases hij' : i = j
      · subst hij'; omega
      · exact h4 ht j hj (by omega)
theorem szWays (xs : List S147) (hz : xs.length * 24 ≤ 140737488351232) (hw : ∀ x ∈ xs, x.f0.length * 8 ≤ 140737488351232) (k : Nat) (hk : 1100000 ≤ k) (b : Int) (h0 : 0 ≤ b) (h1 : b ≤ 1048576) :
    ∃ t, laws_szWayS.f k xs b = some t ∧ t ≤ b ∧ (0 ≤ t → xs.length ≤ 1048576 ∧ ∀ x ∈ xs, x.f0.length ≤ 1048576) := by
  unfold laws_szWayS.f
  rw [w64e (by omega) (by omega)]
  by_cases h2 : b - (xs.length : Int) < 0
  · rw [if_pos h2]
    exact ⟨-1, rfl, by omega, fun h => by omega⟩
  · rw [if_neg h2]
    obtain ⟨t, e, h3, h4⟩ := szWays_l xs (by omega) hw xs.length 0 k (b - xs.length) (by omega) (by omega) (by omega) (by omega)
    refine ⟨t, e, by omega, fun ht => ⟨by omega, fun x hx => ?_⟩⟩
    obtain ⟨j, hj, rfl⟩ := List.mem_iff_getElem.1 hx
    exact h4 ht j hj (by omega)
theorem szYard (y : S35) (hs : y.f0.f0.f2.size ≤ 140737488351232) (hrs : y.f1.length * 32 ≤ 140737488351232) (hws : y.f2.f2.length * 8 ≤ 140737488351232) (hwz : y.f5.f2.length * 24 ≤ 140737488351232) (hww : ∀ x ∈ y.f5.f2, x.f0.length * 8 ≤ 140737488351232) (hjs : y.f6.length * 24 ≤ 140737488351232) (hgs : y.f7.length * 8 ≤ 140737488351232) (k : Nat) (hk : 1100000 ≤ k) :
    ∃ t, laws_szYard.f k y 1048576 = some t ∧ (0 ≤ t → SizedIn y) := by
  unfold laws_szYard.f laws_szSetup.f laws_szGrid.f laws_szRobotS.f laws_szWindow.f laws_szPlan.f laws_szJobS.f laws_szIntS.f
  rw [w64e (x := 1048576 - _) (by omega) (by omega)]
  have bad : ∀ (o : Option Int) (P : Prop), o = some (-1) → ∃ t, o = some t ∧ (0 ≤ t → P) := fun o P e => ⟨-1, e, fun h => by omega⟩
  by_cases h1 : 1048576 - (y.f0.f0.f2.size : Int) < 0
  · refine bad _ _ ?_; simp [h1]
  simp only [if_neg h1, Option.bind_some]
  rw [w64e (x := 1048576 - (y.f0.f0.f2.size : Int) - _) (by omega) (by omega)]
  by_cases h2 : 1048576 - (y.f0.f0.f2.size : Int) - (y.f1.length : Int) < 0
  · refine bad _ _ ?_; simp [h2]
  simp only [if_neg h2, Option.bind_some]
  rw [w64e (x := 1048576 - (y.f0.f0.f2.size : Int) - (y.f1.length : Int) - _) (by omega) (by omega)]
  by_cases h3 : 1048576 - (y.f0.f0.f2.size : Int) - (y.f1.length : Int) - (y.f2.f2.length : Int) < 0
  · refine bad _ _ ?_; simp [h3]
  simp only [if_neg h3, Option.bind_some]
  obtain ⟨t, e1, e2, e3⟩ := szWays y.f5.f2 hwz hww k hk (1048576 - (y.f0.f0.f2.size : Int) - (y.f1.length : Int) - (y.f2.f2.length : Int)) (by omega) (by omega)
  rw [e1]
  simp only [Option.bind_some]
  by_cases h4 : t < 0
  · refine bad _ _ ?_; simp [h4]
  simp only [if_neg h4, Option.bind_some]
  obtain ⟨e4, e5⟩ := e3 (by omega)
  rw [w64e (x := t - _) (by omega) (by omega)]
  by_cases h5 : t - (y.f6.length : Int) < 0
  · refine bad _ _ ?_; simp [h5]
  simp only [if_neg h5, Option.bind_some]
  rw [w64e (x := t - (y.f6.length : Int) - _) (by omega) (by omega)]
  by_cases h6 : t - (y.f6.length : Int) - (y.f7.length : Int) < 0
  · refine bad _ _ ?_; simp [h6]
  simp only [if_neg h6, Option.bind_some]
  exact ⟨_, rfl, fun _ => ⟨by omega, by omega, by omega, e4, e5, by omega, by omega⟩⟩
/-! a yard and itself -/
theorem eqInts (xs : List Int) (hx : xs.length ≤ 1048576) (k : Nat) (hk : 1100000 ≤ k) : laws_eqIntS.f k xs xs = some true := by
  unfold laws_eqIntS.f
  rw [if_pos rfl]
  have h := all_gen xs.length (by omega) (fun k v => laws_eqIntS.l0 k xs xs v) (fun _ => true) 0 true
    (fun kq i hi _ => by show laws_eqIntS.l0 (kq + 1) xs xs _ = _; rw [laws_eqIntS.l0, if_pos (by omega), if_pos (by omega), if_pos (by omega), if_pos rfl, if_pos rfl])
    (fun kq _ => by show laws_eqIntS.l0 (kq + 1) xs xs _ = _; rw [laws_eqIntS.l0, if_neg (by omega)]) xs.length 0 k (by omega) (by omega)
  exact h.trans (by simp)
theorem eqRobots (xs : List S69) (hx : xs.length ≤ 1048576) (k : Nat) (hk : 1100000 ≤ k) : laws_eqRobotS.f k xs xs = some true := by
  unfold laws_eqRobotS.f
  rw [if_pos rfl]
  have h := all_gen xs.length (by omega) (fun k v => laws_eqRobotS.l0 k xs xs v) (fun _ => true) 0 true
    (fun kq i hi _ => by show laws_eqRobotS.l0 (kq + 1) xs xs _ = _; rw [laws_eqRobotS.l0, if_pos (by omega), if_pos (by omega), if_pos (by omega)]; simp [laws_eqRobot.f])
    (fun kq _ => by show laws_eqRobotS.l0 (kq + 1) xs xs _ = _; rw [laws_eqRobotS.l0, if_neg (by omega)]) xs.length 0 k (by omega) (by omega)
  exact h.trans (by simp)
theorem eqJobs (xs : List S74) (hx : xs.length ≤ 1048576) (k : Nat) (hk : 1100000 ≤ k) : laws_eqJobS.f k xs xs = some true := by
  unfold laws_eqJobS.f
  rw [if_pos rfl]
  have h := all_gen xs.length (by omega) (fun k v => laws_eqJobS.l0 k xs xs v) (fun _ => true) 0 true
    (fun kq i hi _ => by show laws_eqJobS.l0 (kq + 1) xs xs _ = _; rw [laws_eqJobS.l0, if_pos (by omega), if_pos (by omega), if_pos (by omega)]; simp [laws_eqJob.f])
    (fun kq _ => by show laws_eqJobS.l0 (kq + 1) xs xs _ = _; rw [laws_eqJobS.l0, if_neg (by omega)]) xs.length 0 k (by omega) (by omega)
  exact h.trans (by simp)
theorem eqWays (xs : List S72) (hx : xs.length ≤ 1048576) (hw : ∀ w ∈ xs, w.f0.length ≤ 1048576) (k : Nat) (hk : 2300000 ≤ k) : laws_eqWayS.f k xs xs = some true := by
  unfold laws_eqWayS.f
  rw [if_pos rfl]
  have h := all_gen xs.length (by omega) (fun k v => laws_eqWayS.l0 k xs xs v) (fun _ => true) 1200000 true
    (fun kq i hi hkq => by
      have := hw _ (List.getElem_mem hi)
      show laws_eqWayS.l0 (kq + 1) xs xs _ = _
      rw [laws_eqWayS.l0, if_pos (by omega), if_pos (by omega), if_pos (by omega), laws_eqWay.f, rdn z72 xs i hi, eqInts _ this kq (by omega)]; rfl)
    (fun kq _ => by show laws_eqWayS.l0 (kq + 1) xs xs _ = _; rw [laws_eqWayS.l0, if_neg (by omega)]) xs.length 0 k (by omega) (by omega)
  exact h.trans (by simp)
theorem eqYard (y : S48) (h : Sized y) (k : Nat) (hk : 2300000 ≤ k) : laws_eqYard.f k y y = some true := by
  unfold laws_eqYard.f laws_eqSetup.f laws_eqGrid.f laws_eqWindow.f laws_eqPlan.f
  rw [eqRobots _ h.robots k (by omega), eqInts _ h.counts k (by omega), eqWays _ h.ways h.cells k (by omega), eqJobs _ h.jobs k (by omega), eqInts _ h.goals k (by omega)]
  simp
end Go.Proofs.YtoaknaceaghclaaGreat.Pu
