/- Plain laws about what the functions compute: yards made of what comes in, weighed and compared. -/
import Derived.Test.YtfhjipfkaemapaaGreatPuI
namespace Go.Proofs.YtfhjipfkaemapaaGreat.Pu
open Go Go.Av Go.Proofs Go.Proofs.YtfhjipfkaemapaaGreat.V
set_option linter.unusedVariables false
set_option linter.unusedSimpArgs false
theorem fill_gen {α β : Type} (f : α → β) (z : β) (xs : List α) (hx : xs.length ≤ 16777216) (L : Nat → List β → Int → Option (List β)) (C : Nat)
  (h1 : ∀ kq out i (hi : i < xs.length), C ≤ kq → out.length = xs.length → L (kq + 1) out (i : Int) = L kq (out.set i (f xs[i])) (w64 ((i : Int) + 1))) (h2 : ∀ kq out, C ≤ kq → L (kq + 1) out (xs.length : Int) = some out) :
  ∀ k, C + xs.length < k → L k (List.replicate xs.length z) 0 = some (xs.map f) := by
 have go : ∀ (d i k : Nat), i + d = xs.length → C + d < k → L k ((xs.take i).map f ++ List.replicate d z) (i : Int) = some (xs.map f) := by
  intro d
  induction d with
  | zero =>
    intro i k hi hk
    obtain ⟨k, rfl⟩ := ks hk
    obtain rfl : i = xs.length := by omega
    rw [h2 k _ (by omega), List.take_length]
    simp
  | succ d ih =>
    intro i k hi hk
    obtain ⟨k, rfl⟩ := ks hk
    have hil : i < xs.length := by omega
    rw [h1 k _ i hil (by omega) (by simp; omega), wn (by omega)]
    have hl : ((xs.take i).map f).length = i := by simp; omega
    rw [List.replicate_succ, List.set_append_right _ _ (by omega), hl, Nat.sub_self, List.set_cons_zero]
    have e : (xs.take i).map f ++ f xs[i] :: List.replicate d z = (xs.take (i + 1)).map f ++ List.replicate d z := by
     rw [List.take_succ_eq_append_getElem hil, List.map_append]
     simp
    rw [e]
    exact ih (i + 1) k (by omega) (by omega)
 intro k hk
 have := go xs.length 0 k (by omega) (by omega)
 simpa using this
theorem toInts (xs : List Int) (hx : xs.length ≤ 1048576) (k : Nat) (hk : 1100000 ≤ k) : laws_toIntS.f k xs = some xs := by
 unfold laws_toIntS.f
 rw [if_pos (by omega), if_pos (by omega), Int.toNat_natCast]
 have h := fill_gen id 0 xs (by omega) (fun k out v => laws_toIntS.l0 k xs out v) 0
  (fun kq out i hi _ ho => by show laws_toIntS.l0 (kq + 1) xs out _ = _; rw [laws_toIntS.l0, if_pos (by omega), if_pos (by omega), if_pos (by omega), rdn 0 xs i hi, Int.toNat_natCast]; rfl)
  (fun kq out _ => by show laws_toIntS.l0 (kq + 1) xs out _ = _; rw [laws_toIntS.l0, if_neg (by omega)]) k (by omega)
 rw [List.map_id] at h
 exact h
theorem eqInts (xs : List Int) (hx : xs.length ≤ 1048576) (k : Nat) (hk : 1100000 ≤ k) : laws_eqIntS.f k xs xs = some true := by
 unfold laws_eqIntS.f
 rw [if_pos rfl]
 have h := all_gen xs.length (by omega) (fun k v => laws_eqIntS.l0 k xs xs v) (fun _ => true) 0 true
  (fun kq i hi _ => by show laws_eqIntS.l0 (kq + 1) xs xs _ = _; rw [laws_eqIntS.l0, if_pos (by omega), if_pos (by omega), if_pos (by omega), if_pos rfl, if_pos rfl])
  (fun kq _ => by show laws_eqIntS.l0 (kq + 1) xs xs _ = _; rw [laws_eqIntS.l0, if_neg (by omega)]) xs.length 0 k (by omega) (by omega)
 exact h.trans (by simp)
theorem eqRobots (xs : List S51) (hx : xs.length ≤ 1048576) (k : Nat) (hk : 1100000 ≤ k) : laws_eqRobotS.f k xs xs = some true := by
 unfold laws_eqRobotS.f
 rw [if_pos rfl]
 have h := all_gen xs.length (by omega) (fun k v => laws_eqRobotS.l0 k xs xs v) (fun _ => true) 0 true
  (fun kq i hi _ => by show laws_eqRobotS.l0 (kq + 1) xs xs _ = _; rw [laws_eqRobotS.l0, if_pos (by omega), if_pos (by omega), if_pos (by omega)]; simp [laws_eqRobot.f])
  (fun kq _ => by show laws_eqRobotS.l0 (kq + 1) xs xs _ = _; rw [laws_eqRobotS.l0, if_neg (by omega)]) xs.length 0 k (by omega) (by omega)
 exact h.trans (by simp)
theorem eqJobs (xs : List S55) (hx : xs.length ≤ 1048576) (k : Nat) (hk : 1100000 ≤ k) : laws_eqJobS.f k xs xs = some true := by
 unfold laws_eqJobS.f
 rw [if_pos rfl]
 have h := all_gen xs.length (by omega) (fun k v => laws_eqJobS.l0 k xs xs v) (fun _ => true) 0 true
  (fun kq i hi _ => by show laws_eqJobS.l0 (kq + 1) xs xs _ = _; rw [laws_eqJobS.l0, if_pos (by omega), if_pos (by omega), if_pos (by omega)]; simp [laws_eqJob.f])
  (fun kq _ => by show laws_eqJobS.l0 (kq + 1) xs xs _ = _; rw [laws_eqJobS.l0, if_neg (by omega)]) xs.length 0 k (by omega) (by omega)
 exact h.trans (by simp)
theorem eqWays (xs : List S53) (hx : xs.length ≤ 1048576) (hw : ∀ w ∈ xs, w.f0.length ≤ 1048576) (k : Nat) (hk : 2300000 ≤ k) : laws_eqWayS.f k xs xs = some true := by
 unfold laws_eqWayS.f
 rw [if_pos rfl]
 have h := all_gen xs.length (by omega) (fun k v => laws_eqWayS.l0 k xs xs v) (fun _ => true) 1200000 true
  (fun kq i hi hkq => by
    have := hw _ (List.getElem_mem hi)
    show laws_eqWayS.l0 (kq + 1) xs xs _ = _
    rw [laws_eqWayS.l0, if_pos (by omega), if_pos (by omega), if_pos (by omega), laws_eqWay.f, rdn z53 xs i hi, eqInts _ this kq (by omega)]; rfl)
  (fun kq _ => by show laws_eqWayS.l0 (kq + 1) xs xs _ = _; rw [laws_eqWayS.l0, if_neg (by omega)]) xs.length 0 k (by omega) (by omega)
 exact h.trans (by simp)
theorem eqYard (y : S35) (h : Sized y) (k : Nat) (hk : 2300000 ≤ k) : laws_eqYard.f k y y = some true := by
 unfold laws_eqYard.f laws_eqSetup.f laws_eqGrid.f laws_eqWindow.f laws_eqPlan.f
 rw [eqRobots _ h.robots k (by omega), eqInts _ h.counts k (by omega), eqWays _ h.ways h.cells k (by omega), eqJobs _ h.jobs k (by omega), eqInts _ h.goals k (by omega)]
 simp
end Go.Proofs.YtfhjipfkaemapaaGreat.Pu