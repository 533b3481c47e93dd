/- Plain laws about what the functions compute: marks that are found again. -/
import Derived.Test.YtfhjipfkaemapaaGreatPuK
namespace Go.Proofs.YtfhjipfkaemapaaGreat.Pu
open Go Go.Av Go.Proofs Go.Proofs.YtfhjipfkaemapaaGreat.V
set_option linter.unusedVariables false
set_option linter.unusedSimpArgs false
theorem heldInts (n : Nat) (hn : n ≤ 1048576) (a : Int) (ha : 0 ≤ a ∧ a ≤ 4000000000000000) (k : Nat) (hk : 1100000 ≤ k) : laws_heldIntS.f k (mkI a n) a = some (a + n) := by
 have h := held_gen n hn (fun i => a + (i : Nat)) (fun k v i => laws_heldIntS.l0 k (mkI a n) v i) 0
  (fun kq i hi _ => by
    show laws_heldIntS.l0 (kq + 1) _ _ _ = _
    have e : a + (i : Int) + 1 = a + ((i + 1 : Nat) : Int) := by omega
    rw [laws_heldIntS.l0, if_pos (by unfold mkI; simp; omega), if_pos (by omega), mkI, rd_map _ _ _ _ hi, if_pos rfl, w64e (x := a + (i : Nat) + 1) (by omega) (by omega), e])
  (fun kq x _ => by show laws_heldIntS.l0 (kq + 1) _ _ _ = _; rw [laws_heldIntS.l0, if_neg (by unfold mkI; simp)]) k (by omega)
 unfold laws_heldIntS.f
 simpa using h
theorem robot4 (a : Int) (i : Nat) (ha : 0 ≤ a ∧ a ≤ 4000000000000000) (hi : i ≤ 1048576) : w64 (w64 (w64 (w64 (a + 4 * (i : Nat) + 1) + 1) + 1) + 1) = a + 4 * ((i + 1 : Nat) : Int) := by
 rw [w64e (x := a + 4 * (i : Nat) + 1) (by omega) (by omega), w64e (x := a + 4 * (i : Nat) + 1 + 1) (by omega) (by omega), w64e (x := a + 4 * (i : Nat) + 1 + 1 + 1) (by omega) (by omega), w64e (by omega) (by omega)]
 omega
theorem heldRobots (n : Nat) (hn : n ≤ 1048576) (a : Int) (ha : 0 ≤ a ∧ a ≤ 4000000000000000) (k : Nat) (hk : 1100000 ≤ k) : laws_heldRobotS.f k ((List.range' 0 n).map (mkRobot a)) a = some (a + 4 * n) := by
 have h := held_gen n hn (fun i => a + 4 * (i : Nat)) (fun k v i => laws_heldRobotS.l0 k ((List.range' 0 n).map (mkRobot a)) v i) 0
  (fun kq i hi _ => by
    show laws_heldRobotS.l0 (kq + 1) _ _ _ = _
    rw [laws_heldRobotS.l0, if_pos (by simp; omega), if_pos (by omega), rd_map _ _ _ _ hi, mkRobot, if_pos rfl, if_pos rfl, if_pos rfl, if_pos (by simp), robot4 a i ha (by omega)])
  (fun kq x _ => by show laws_heldRobotS.l0 (kq + 1) _ _ _ = _; rw [laws_heldRobotS.l0, if_neg (by simp)]) k (by omega)
 unfold laws_heldRobotS.f
 simpa using h
theorem job3 (a : Int) (i : Nat) (ha : 0 ≤ a ∧ a ≤ 4000000000000000) (hi : i ≤ 1048576) : w64 (w64 (w64 (a + 3 * (i : Nat) + 1) + 1) + 1) = a + 3 * ((i + 1 : Nat) : Int) := by
 rw [w64e (x := a + 3 * (i : Nat) + 1) (by omega) (by omega), w64e (x := a + 3 * (i : Nat) + 1 + 1) (by omega) (by omega), w64e (by omega) (by omega)]
 omega
theorem heldJobs (n : Nat) (hn : n ≤ 1048576) (a : Int) (ha : 0 ≤ a ∧ a ≤ 4000000000000000) (k : Nat) (hk : 1100000 ≤ k) : laws_heldJobS.f k ((List.range' 0 n).map (mkJob a)) a = some (a + 3 * n) := by
 have h := held_gen n hn (fun i => a + 3 * (i : Nat)) (fun k v i => laws_heldJobS.l0 k ((List.range' 0 n).map (mkJob a)) v i) 0
  (fun kq i hi _ => by
    show laws_heldJobS.l0 (kq + 1) _ _ _ = _
    rw [laws_heldJobS.l0, if_pos (by simp; omega), if_pos (by omega), rd_map _ _ _ _ hi, mkJob, if_pos rfl, if_pos rfl, if_pos (by simp), job3 a i ha (by omega)])
  (fun kq x _ => by show laws_heldJobS.l0 (kq + 1) _ _ _ = _; rw [laws_heldJobS.l0, if_neg (by simp)]) k (by omega)
 unfold laws_heldJobS.f
 simpa using h
theorem heldWays (l : List S53) (hl : l.length ≤ 1048576) (hw : ∀ w ∈ l, w.f0.length ≤ 1048576) (a : Int) (ha : 0 ≤ a ∧ a ≤ 2000000000000000) (k : Nat) (hk : 2300000 ≤ k) :
  laws_heldWayS.f k ((List.range' 0 l.length).map (mkWay l a)) a = some (a + (sumW l l.length : Nat)) := by
 have h := held_gen l.length hl (fun i => a + (sumW l i : Nat)) (fun k v i => laws_heldWayS.l0 k ((List.range' 0 l.length).map (mkWay l a)) v i) 1200000
  (fun kq i hi hkq => by
    show laws_heldWayS.l0 (kq + 1) _ _ _ = _
    have h1 := sumW_len l hw i (by omega)
    have h2 := hw _ (List.getElem_mem hi)
    have e2 : a + (sumW l i : Nat) + (l[i].f0.length : Int) = a + (sumW l (i + 1) : Nat) := by rw [sumW, rdn z53 l i hi]; omega
    rw [laws_heldWayS.l0, if_pos (by simp; omega), if_pos (by omega), rd_map _ _ _ _ hi, mkWay, rdn z53 l i hi, heldInts _ h2 _ (by omega) kq (by omega), Option.bind_some, if_neg (by omega), e2])
  (fun kq x _ => by show laws_heldWayS.l0 (kq + 1) _ _ _ = _; rw [laws_heldWayS.l0, if_neg (by simp)]) k (by omega)
 unfold laws_heldWayS.f
 simpa [sumW] using h
theorem markHeld (y : S35) (h : Sized y) (k : Nat) (hk : 2300000 ≤ k) (g : S26) (b c d : Int) (e : Bool) (p q : Int) : ∃ r, laws_markYard.f k y 1 = some r ∧ 0 ≤ r.1 ∧ laws_heldYard.f k ⟨g, r.2.1, ⟨b, c, r.2.2.1⟩, d, e, ⟨p, q, r.2.2.2.1⟩, r.2.2.2.2.1, r.2.2.2.2.2⟩ 1 = some r.1 := by
 have h1 := h.robots
 have h2 := h.counts
 have h3 := h.ways
 have h4 := h.jobs
 have h5 := h.goals
 have h6 := sumW_len y.f5.f2 h.cells _ (Nat.le_refl _)
 unfold laws_markYard.f laws_markWindow.f laws_markPlan.f laws_heldYard.f laws_heldWindow.f laws_heldPlan.f
 rw [markRobots _ h1 _ (by omega) k (by omega), Option.bind_some, markInts _ h2 _ (by simp only; omega) k (by omega), Option.bind_some, Option.bind_some, markWays _ h3 h.cells _ (by simp only; omega) k (by omega), Option.bind_some, Option.bind_some,
  markJobs _ h4 _ (by simp only; omega) k (by omega), Option.bind_some, markInts _ h5 _ (by simp only; omega) k (by omega), Option.bind_some]
 refine ⟨_, rfl, by simp only; omega, ?_⟩
 simp only
 rw [heldRobots _ h1 _ (by omega) k (by omega), Option.bind_some, if_neg (by omega), heldInts _ h2 _ (by omega) k (by omega), Option.bind_some, if_neg (by omega), Option.bind_some, if_neg (by omega),
  heldWays _ h3 h.cells _ (by omega) k (by omega), Option.bind_some, if_neg (by omega), Option.bind_some, if_neg (by omega), heldJobs _ h4 _ (by omega) k (by omega), Option.bind_some, if_neg (by omega), heldInts _ h5 _ (by omega) k (by omega), Option.bind_some, if_neg (by omega)]
end Go.Proofs.YtfhjipfkaemapaaGreat.Pu