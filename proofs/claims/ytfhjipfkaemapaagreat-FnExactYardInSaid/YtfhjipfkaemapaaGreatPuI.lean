/- Plain laws about what the functions compute: which yards are right. -/
import Derived.Test.YtfhjipfkaemapaaGreatPuC
import Derived.Test.YtfhjipfkaemapaaGreatPuD
import Derived.Test.YtfhjipfkaemapaaGreatPuH
namespace Go.Proofs.YtfhjipfkaemapaaGreat.Pu
open Go Go.Av Go.Proofs Go.Proofs.YtfhjipfkaemapaaGreat.V
set_option linter.unusedVariables false
set_option linter.unusedSimpArgs false
structure Sized (y : S35) : Prop where
 grid : y.f0.f0.f2.size ≤ 1048576
 robots : y.f1.length ≤ 1048576
 counts : y.f2.f2.length ≤ 1048576
 ways : y.f5.f2.length ≤ 1048576
 cells : ∀ w ∈ y.f5.f2, w.f0.length ≤ 1048576
 jobs : y.f6.length ≤ 1048576
 goals : y.f7.length ≤ 1048576
def worksB (y : S35) (i : Nat) : Bool := y.f6.any fun j => decide (j.f0 = (rdD z51 y.f1 (i : Int)).f0)
theorem specWorks (y : S35) (hj : y.f6.length ≤ 1048576) (i : Nat) (k : Nat) (hk : 1100000 ≤ k) : spec_YardOk.l3 k y (i : Int) 0 false = some (worksB y i) := by
 have go : ∀ (d m k : Nat) (b : Bool), m + d = y.f6.length → d < k → spec_YardOk.l3 k y (i : Int) (m : Int) b = some (b || (y.f6.drop m).any fun j => decide (j.f0 = (rdD z51 y.f1 (i : Int)).f0)) := by
  intro d
  induction d with
  | zero =>
    intro m k b hm hk
    obtain ⟨k, rfl⟩ := ks hk
    rw [spec_YardOk.l3, if_neg (by omega), List.drop_eq_nil_of_le (by omega)]
    simp
  | succ d ih =>
    intro m k b hm hk
    obtain ⟨k, rfl⟩ := ks hk
    rw [spec_YardOk.l3, if_pos (by omega), if_pos (by omega), if_pos (by omega), rdn z55 _ m (by omega), wn (by omega), ih (m + 1) k _ (by omega) (by omega), ih (m + 1) k _ (by omega) (by omega), List.drop_eq_getElem_cons (show m < y.f6.length by omega), List.any_cons]
    by_cases h : (y.f6[m]'(by omega)).f0 = (rdD z51 y.f1 (i : Int)).f0
    ·rw [if_pos h, decide_eq_true h]; simp
    ·rw [if_neg h, decide_eq_false h]; simp
 have := go y.f6.length 0 k false (by omega) (by omega)
 rw [List.drop_zero, Bool.false_or] at this
 exact this
theorem implWorks (y : S35) (hj : y.f6.length ≤ 1048576) (i : Nat) (k : Nat) (hk : 1100000 ≤ k) : slices_ContainsFunc_impl_Job_impl_Job_4.f k y.f6 (fun x => impl_YardOk_1.f x (rdD z51 y.f1 (i : Int))) = some (worksB y i) := by
 unfold slices_ContainsFunc_impl_Job_impl_Job_4.f slices_IndexFunc_impl_Job_impl_Job_4.f
 rw [index_gen z55 slices_IndexFunc_impl_Job_impl_Job_4.l0 (fun _ _ _ _ => rfl) y.f6 (fun x => impl_YardOk_1.f x (rdD z51 y.f1 (i : Int))) (fun j => decide (j.f0 = (rdD z51 y.f1 (i : Int)).f0)) (fun x _ => rfl) (by omega) k (by omega), Option.bind_some, fidx_any]
 rfl
theorem specOthers (y : S35) (hs : y.f0.f0.f2.size ≤ 1048576) (foot : List Int) (hf : foot.length ≤ 210) (k : Nat) (hk : 1100000 ≤ k) : spec_YardOk.l1 k y foot [] 0 = some (((List.range' 0 y.f0.f0.f2.size).filter fun i => !foot.contains ((i : Nat) : Int)).map fun (i : Nat) => (i : Int)) := by
 have go : ∀ (d i k : Nat) (acc : List Int), i + d = y.f0.f0.f2.size → d + 300 < k → acc.length ≤ i → spec_YardOk.l1 k y foot acc (i : Int) = some (acc ++ ((List.range' i d).filter fun i => !foot.contains ((i : Nat) : Int)).map fun (i : Nat) => (i : Int)) := by
  intro d
  induction d with
  | zero =>
    intro i k acc hi hk ha
    obtain ⟨k, rfl⟩ := ks (show 0 < k by omega)
    rw [spec_YardOk.l1, if_neg (by omega)]
    simp
  | succ d ih =>
    intro i k acc hi hk ha
    obtain ⟨k, rfl⟩ := ks (show 0 < k by omega)
    rw [spec_YardOk.l1, if_pos (by omega), specHas foot _ (by omega) k (by omega), Option.bind_some, wn (by omega), List.range'_succ, List.filter_cons]
    cases hc : foot.contains (i : Int)
    ·rw [if_neg (by simp), if_pos (by omega), ih (i + 1) k _ (by omega) (by omega) (by simp; omega)]
     simp
    ·rw [if_pos rfl, ih (i + 1) k _ (by omega) (by omega) (by omega)]
     simp
 exact go y.f0.f0.f2.size 0 k [] (by omega) (by omega) (by simp)
theorem specStarts (y : S35) {sp : Int} (hL : Lev y.f5.f2 sp) (k : Nat) (hk : 500 ≤ k) : spec_YardOk.l0 k y [] 0 = some (firstL y.f5.f2) := by
 have hn := hL.n
 have hs := hL.spr
 have go : ∀ (d i k : Nat) (acc : List Int), i + d = y.f5.f2.length → d < k → acc.length ≤ i → spec_YardOk.l0 k y acc (i : Int) = some (acc ++ (List.range' i d).map fun i => cel y.f5.f2 i 0) := by
  intro d
  induction d with
  | zero =>
    intro i k acc hi hk ha
    obtain ⟨k, rfl⟩ := ks (show 0 < k by omega)
    rw [spec_YardOk.l0, if_neg (by omega)]
    simp
  | succ d ih =>
    intro i k acc hi hk ha
    obtain ⟨k, rfl⟩ := ks (show 0 < k by omega)
    have hli := hL.len i (by omega)
    rw [spec_YardOk.l0, if_pos (by omega), if_pos (by omega), if_pos (by omega), if_pos (by omega), wn (by omega), ih (i + 1) k _ (by omega) (by omega) (by simp; omega), List.range'_succ, List.map_cons, List.append_assoc]
    rfl
 exact go y.f5.f2.length 0 k [] (by omega) (by omega) (by simp)
def clearS (foot : List Int) (r : S51) : Bool := !foot.contains r.f1 && !foot.contains r.f2
def clearI (foot : List Int) (r : S51) : Bool := !(heldL r).any fun c => foot.contains c
theorem heldBy_eq (r : S51) : impl_heldBy.f r = some (heldL r) := by
 unfold impl_heldBy.f heldL
 split <;> rfl
theorem heldL_len (r : S51) : (heldL r).length ≤ 2 := by
 unfold heldL
 split <;> simp
theorem clear_eq (foot : List Int) (hf : ∀ c ∈ foot, 0 ≤ c) (r : S51) (hr : r.f2 = -1 ∨ 0 ≤ r.f2) : clearS foot r = clearI foot r := by
 unfold clearS clearI heldL
 rcases hr with h | h
 ·rw [if_pos (by omega)]
  have : foot.contains r.f2 = false := by
   rw [← Bool.not_eq_true, List.contains_iff_mem]
   intro hm
   have := hf _ hm
   omega
  rw [this]
  simp
 ·rw [if_neg (by omega)]
  simp
theorem foot_free (g : S24) {ways : List S53} {sp : Int} (hL : Lev ways sp) (h : stepsB g ways (sp.toNat + 1) = false) : ∀ c ∈ usedL ways, 0 ≤ c := by
 intro c hc
 unfold usedL at hc
 obtain ⟨w, hw, hcw⟩ := List.mem_flatMap.1 hc
 obtain ⟨i, hi, rfl⟩ := List.getElem_of_mem hw
 obtain ⟨j, hj, rfl⟩ := List.getElem_of_mem hcw
 have hl := hL.cells _ hw
 have hs := hL.spr
 unfold stepsB at h
 have h1 := List.any_eq_false.1 h i (by simp [List.mem_range'_1]; omega)
 rw [Bool.not_eq_true] at h1
 have h2 := List.any_eq_false.1 h1 j (by simp [List.mem_range'_1]; omega)
 unfold stepB cel at h2
 rw [Bool.not_eq_true, Bool.or_eq_false_iff, rdn z53 ways i hi, rdn 0 _ j hj] at h2
 have h3 : freeB g.f2 ways[i].f0[j] = true := by simpa using h2.1
 exact (freeB_rng h3).1
def setupB (s : S26) : Bool := gridB s.f0 && (decide (1 ≤ s.f1 ∧ s.f1 ≤ 20) && (((spec_WindowNew.f s.f2 s.f3).getD (⟨0, 0, []⟩, false)).2 && decide (0 ≤ s.f4 ∧ s.f4 ≤ 20)))
theorem setup_val (s : S26) (hb : s.f0.f2.size ≤ 1048576) (k : Nat) (hk : 1100000 ≤ k) : spec_SetupOk.f k s = some (setupB s) := by
 obtain ⟨w, h1, _⟩ := windowNew_eq s.f2 s.f3
 unfold spec_SetupOk.f setupB
 rw [h1, specGrid _ hb k hk]
 simp only [Option.bind_some, l01In_eq, decide_eq_true_eq, Option.getD_some]
 cases gridB s.f0
 ·rfl
 ·by_cases h3 : 1 ≤ s.f1 ∧ s.f1 ≤ 20
  ·rw [if_pos rfl, if_pos h3, decide_eq_true h3]
   cases w.2 <;> rfl
  ·rw [if_pos rfl, if_neg h3, decide_eq_false h3]
   rfl
def windowB (w : S29) : Bool := decide (1 ≤ w.f0 ∧ w.f0 ≤ 8) && (decide (1 ≤ w.f1 ∧ w.f1 ≤ 100) && (decide ((w.f2.length : Int) = w64 (w.f0 * 6)) && w.f2.all fun x => decide (0 ≤ x ∧ x ≤ w.f1)))
theorem window_val (w : S29) (hb : w.f2.length ≤ 1048576) (k : Nat) (hk : 1100000 ≤ k) : spec_WindowOk.f k w = some (windowB w) := by
 have hl := all_gen w.f2.length (by omega) (fun k v => spec_WindowOk.l0 k w v) (fun i => decide (0 ≤ rdD 0 w.f2 (i : Nat) ∧ rdD 0 w.f2 (i : Nat) ≤ w.f1)) 0 true
  (fun kq i hi _ => by show spec_WindowOk.l0 (kq + 1) w _ = _; rw [spec_WindowOk.l0, if_pos (by omega), if_pos (by omega), l01In_eq, Option.bind_some])
  (fun kq _ => by show spec_WindowOk.l0 (kq + 1) w _ = _; rw [spec_WindowOk.l0, if_neg (by omega)]) w.f2.length 0 k (by omega) (by omega)
 rw [Bool.and_true] at hl
 rw [range_all w.f2 (fun x => decide (0 ≤ x ∧ x ≤ w.f1)) _ (fun i hi => by rw [rdn 0 w.f2 i hi])] at hl
 replace hl : spec_WindowOk.l0 k w 0 = some (w.f2.all fun x => decide (0 ≤ x ∧ x ≤ w.f1)) := hl
 unfold spec_WindowOk.f windowB
 simp only [l01In_eq, Option.bind_some, decide_eq_true_eq]
 by_cases h1 : 1 ≤ w.f0 ∧ w.f0 ≤ 8
 ·rw [if_pos h1, decide_eq_true h1]
  by_cases h2 : 1 ≤ w.f1 ∧ w.f1 ≤ 100
  ·rw [if_pos h2, decide_eq_true h2]
   by_cases h3 : (w.f2.length : Int) = w64 (w.f0 * 6)
   ·rw [if_pos h3, hl, decide_eq_true h3]; rfl
   ·rw [if_neg h3, decide_eq_false h3]; rfl
  ·rw [if_neg h2, decide_eq_false h2]; rfl
 ·rw [if_neg h1, decide_eq_false h1]; rfl
def jobsB (y : S35) : Bool := if y.f4 = true then (decide (y.f5.f0 ≤ 20) && (decide (1 ≤ (y.f6.length : Int) ∧ (y.f6.length : Int) ≤ 10) && (decide ((y.f6.length : Int) = (y.f5.f2.length : Int)) && (((List.range' 0 y.f6.length).all fun i => decide (((rdD z53 y.f5.f2 (i : Nat)).f0.length : Int) = y.f5.f0 + 1) && jobB y (layerI y.f6) i) && decide (layerI y.f6 < y.f5.f0)))))
 else (decide (y.f5.f0 = 0) && (decide (y.f5.f1 = 0) && (decide ((y.f5.f2.length : Int) = 0) && decide ((y.f6.length : Int) = 0))))
theorem jobs_val (y : S35) (hr : y.f1.length ≤ 1048576) (hj : y.f6.length ≤ 1048576) (hwl : ∀ w ∈ y.f5.f2, w.f0.length ≤ 1048576) (k : Nat) (hk : 1300000 ≤ k) : spec_JobsOk.f k y = some (jobsB y) := by
 unfold spec_JobsOk.f jobsB
 cases ha : y.f4
 ·rw [if_neg (show ¬ (false = true) by simp), if_neg (show ¬ (false = true) by simp)]
  by_cases c1 : y.f5.f0 = 0
  ·rw [if_pos c1, decide_eq_true c1]
   by_cases c2 : y.f5.f1 = 0
   ·rw [if_pos c2, decide_eq_true c2]
    by_cases c3 : (y.f5.f2.length : Int) = 0
    ·rw [if_pos c3, decide_eq_true c3]; rfl
    ·rw [if_neg c3, decide_eq_false c3]; rfl
   ·rw [if_neg c2, decide_eq_false c2]; rfl
  ·rw [if_neg c1, decide_eq_false c1]; rfl
 rw [if_pos rfl, if_pos rfl]
 unfold spec_l21Jobs.f
 by_cases h1 : 20 < y.f5.f0
 ·rw [if_pos h1, decide_eq_false (by omega)]; rfl
 rw [if_neg h1, l01In_eq, Option.bind_some, decide_eq_true (show y.f5.f0 ≤ 20 by omega), Bool.true_and]
 by_cases h2 : 1 ≤ (y.f6.length : Int) ∧ (y.f6.length : Int) ≤ 10
 ·rw [decide_eq_true h2, if_pos rfl, Bool.true_and]
  by_cases h3 : (y.f6.length : Int) = (y.f5.f2.length : Int)
  ·rw [if_pos h3, decide_eq_true h3, Bool.true_and]
   have hW : ∀ i (hi : i < y.f5.f2.length), rdD z53 y.f5.f2 (i : Int) = y.f5.f2[i] := fun i hi => rdn z53 _ i hi
   have hl := all_gen y.f6.length (by omega) (fun k v => spec_l21Jobs.l0 k y v) (fun i => decide (((rdD z53 y.f5.f2 (i : Nat)).f0.length : Int) = y.f5.f0 + 1) && jobB y (layerI y.f6) i) 1200000 true
    (fun kq i hi hkq => by
      show spec_l21Jobs.l0 (kq + 1) y _ = _
      rw [spec_l21Jobs.l0, if_pos (by omega), specJob y hr (by omega) (by omega) (by omega) i hi (by rw [hW i (by omega)]; exact hwl _ (List.getElem_mem _)) kq hkq, Option.bind_some])
    (fun kq _ => by show spec_l21Jobs.l0 (kq + 1) y _ = _; rw [spec_l21Jobs.l0, if_neg (by omega)]) y.f6.length 0 k (by omega) (by omega)
   rw [Bool.and_true] at hl
   replace hl : spec_l21Jobs.l0 k y 0 = _ := hl
   rw [hl, Option.bind_some, specLayer y (by omega) k (by omega), Option.bind_some]
   cases (List.range' 0 y.f6.length).all fun i => decide (((rdD z53 y.f5.f2 (i : Nat)).f0.length : Int) = y.f5.f0 + 1) && jobB y (layerI y.f6) i <;> rfl
  ·rw [if_neg h3, decide_eq_false h3]; rfl
 ·rw [decide_eq_false h2]; rfl
def yardB (y : S35) : Bool := setupB y.f0 && (teamB y.f0.f0 y.f1 && (windowB y.f2 && (decide (y.f2.f0 = y.f0.f2) && (decide (y.f2.f1 = y.f0.f3) && (decide (0 ≤ y.f3 ∧ y.f3 ≤ 1000000000) && (jobsB y && (okCells y.f0.f0.f2 y.f7 && (if y.f4 = true then
 ((List.range' 0 y.f1.length).all fun i => worksB y i || clearS (sortL (usedL y.f5.f2)) (rdD z51 y.f1 (i : Int))) && decide (planR (onlyG y.f0.f0 (sortL (usedL y.f5.f2))) y.f5.f2 y.f5.f0 y.f7 y.f5.f1 = 0) else true))))))))
theorem yard_eq (y : S35) (hS : Sized y) (k : Nat) (hk : 3000000 ≤ k) : spec_YardOk.f k y = some (yardB y) ∧ impl_YardOk.f k y = some (yardB y) ∧ (yardB y = true → FitB y) := by
 suffices h : ∃ b, spec_YardOk.f k y = some b ∧ impl_YardOk.f k y = some b ∧ (b = true → FitB y) ∧ b = yardB y by
  obtain ⟨b, h1, h2, h3, rfl⟩ := h
  exact ⟨h1, h2, h3⟩
 unfold spec_YardOk.f impl_YardOk.f
 obtain ⟨b1, e1, e2, hb1⟩ := setup_eq y.f0 hS.grid k (by omega)
 have v1 := Option.some.inj (e1.symm.trans (setup_val _ hS.grid k (by omega)))
 rw [e1, e2, Option.bind_some, Option.bind_some]
 cases b1
 ·exact ⟨false, rfl, rfl, fun h => (by cases h), by unfold yardB; rw [← v1]; rfl⟩
 have hg := hb1 rfl
 have hgs := gridB_size hg
 rw [if_pos rfl, if_pos rfl, specTeam _ hS.grid _ k (by omega), implTeam _ hS.grid _ k (by omega), Option.bind_some, Option.bind_some]
 cases ht : teamB y.f0.f0 y.f1
 ·exact ⟨false, rfl, rfl, fun h => (by cases h), by unfold yardB; rw [← v1, ht]; rfl⟩
 obtain ⟨_, hrl, hsolo⟩ := teamB_solo ht
 obtain ⟨b2, e3, e4⟩ := window_eq y.f2 hS.counts k (by omega)
 have v2 := Option.some.inj (e3.symm.trans (window_val _ hS.counts k (by omega)))
 rw [if_pos rfl, if_pos rfl, e3, e4, Option.bind_some, Option.bind_some]
 cases b2
 ·exact ⟨false, rfl, rfl, fun h => (by cases h), by unfold yardB; rw [← v1, ht, ← v2]; rfl⟩
 rw [if_pos rfl, if_pos rfl]
 by_cases c1 : y.f2.f0 = y.f0.f2
 case neg => rw [if_neg c1, if_neg c1]; exact ⟨false, rfl, rfl, fun h => (by cases h), by unfold yardB; rw [← v1, ht, ← v2, decide_eq_false c1]; rfl⟩
 rw [if_pos c1, if_pos c1]
 by_cases c2 : y.f2.f1 = y.f0.f3
 case neg => rw [if_neg c2, if_neg c2]; exact ⟨false, rfl, rfl, fun h => (by cases h), by unfold yardB; rw [← v1, ht, ← v2, decide_eq_true c1, decide_eq_false c2]; rfl⟩
 rw [if_pos c2, if_pos c2, l01In_eq, Option.bind_some]
 by_cases c3 : 0 ≤ y.f3 ∧ y.f3 ≤ 1000000000
 case neg =>
  rw [if_neg (by simpa using c3)]
  refine ⟨false, rfl, ?_, fun h => (by cases h), by unfold yardB; rw [← v1, ht, ← v2, decide_eq_true c1, decide_eq_true c2, decide_eq_false c3]; rfl⟩
  by_cases c4 : y.f3 < 0
  ·rw [if_pos c4]
  ·rw [if_neg c4, if_pos (by omega)]
 rw [if_pos (by simpa using c3), if_neg (show ¬ y.f3 < 0 by omega), if_neg (show ¬ 1000000000 < y.f3 by omega)]
 obtain ⟨b3, e5, e6, hb3⟩ := jobs_eq y hS.robots hS.jobs hS.ways hS.cells k (by omega)
 have v3 := Option.some.inj (e5.symm.trans (jobs_val y hS.robots hS.jobs hS.cells k (by omega)))
 rw [e5, e6, Option.bind_some, Option.bind_some]
 cases b3
 ·exact ⟨false, rfl, rfl, fun h => (by cases h), by unfold yardB; rw [← v1, ht, ← v2, decide_eq_true c1, decide_eq_true c2, decide_eq_true c3, ← v3]; rfl⟩
 rw [if_pos rfl, if_pos rfl, specCells _ hg _ hS.goals k (by omega), implAreFree _ hg _ hS.goals k (by omega), implAsc _ hS.goals k (by omega), Option.bind_some, Option.bind_some]
 unfold okCells
 cases hf : y.f7.all (freeB y.f0.f0.f2)
 ·exact ⟨false, rfl, rfl, fun h => (by cases h), by unfold yardB; unfold okCells; rw [← v1, ht, ← v2, decide_eq_true c1, decide_eq_true c2, decide_eq_true c3, ← v3, hf]; rfl⟩
 rw [if_pos rfl, Bool.true_and, Option.bind_some]
 cases hasc : ascB y.f7
 ·exact ⟨false, rfl, rfl, fun h => (by cases h), by unfold yardB; unfold okCells; rw [← v1, ht, ← v2, decide_eq_true c1, decide_eq_true c2, decide_eq_true c3, ← v3, hf, hasc]; rfl⟩
 rw [if_pos rfl, if_pos rfl]
 cases ha : y.f4
 ·exact ⟨true, rfl, rfl, fun _ => hb3 rfl, by unfold yardB okCells; rw [← v1, ht, ← v2, decide_eq_true c1, decide_eq_true c2, decide_eq_true c3, ← v3, hf, hasc, ha]; rfl⟩
 have hJ := (hb3 rfl).1 ha
 have hL : Lev y.f5.f2 y.f5.f0 := ⟨by have := hJ.jobs; have := hJ.ways; omega, hJ.span, hJ.cells⟩
 have hw21 : ∀ w ∈ y.f5.f2, w.f0.length ≤ 21 := fun w hw => by have := hJ.cells w hw; have := hJ.span; omega
 have hlen := usedT_len y.f5.f2 hw21 hL.n.2
 have hsl := sortL_len _ hlen
 rw [if_pos rfl, if_pos rfl, specStarts y hL k (by omega), Option.bind_some]
 unfold spec_Footprint.f impl_Footprint.f
 rw [ha, if_pos rfl, if_pos rfl, specUsed _ hw21 hL.n.2 k (by omega), implUsed _ hw21 hL.n.2 k (by omega)]
 simp only [Option.bind_some]
 rw [specOthers y hS.grid _ hsl k (by omega), implOnly _ hg _ (by omega) k (by omega), implFirst hL k (by omega)]
 simp only [Option.bind_some]
 have hgo : (onlyG y.f0.f0 (sortL (usedL y.f5.f2))).f2.size ≤ 1048576 := by rw [onlyG_size]; omega
 have hplan := fun k (hk : 2400000 ≤ k) => plan_eq hL (onlyG y.f0.f0 (sortL (usedL y.f5.f2))) hgo y.f7 hS.goals y.f5 rfl rfl k hk
 have vY : yardB y = (((List.range' 0 y.f1.length).all fun i => worksB y i || clearS (sortL (usedL y.f5.f2)) (rdD z51 y.f1 (i : Int))) && decide (planR (onlyG y.f0.f0 (sortL (usedL y.f5.f2))) y.f5.f2 y.f5.f0 y.f7 y.f5.f1 = 0)) := by unfold yardB okCells; rw [← v1, ht, ← v2, decide_eq_true c1, decide_eq_true c2, decide_eq_true c3, ← v3, hf, hasc, ha]; rfl
 generalize hG : onlyG y.f0.f0 (sortL (usedL y.f5.f2)) = G at hplan hgo vY ⊢
 have hr0 := planR_steps (ways := y.f5.f2) (sp := y.f5.f0) (g := G) (gl := y.f7) (mv := y.f5.f1)
 generalize planR G y.f5.f2 y.f5.f0 y.f7 y.f5.f1 = r at hplan hr0 vY
 have hspec := all_gen y.f1.length (by omega) (fun k v => spec_YardOk.l2 k y (sortL (usedL y.f5.f2)) (((List.range' 0 y.f0.f0.f2.size).filter fun i => !(sortL (usedL y.f5.f2)).contains ((i : Nat) : Int)).map fun (i : Nat) => (i : Int)) (firstL y.f5.f2) v)
  (fun i => worksB y i || clearS (sortL (usedL y.f5.f2)) (rdD z51 y.f1 (i : Int))) 2500000 (decide (r = 0))
  (fun kq i hi hkq => by
    show spec_YardOk.l2 (kq + 1) y _ _ _ _ = _
    rw [spec_YardOk.l2, if_pos (by omega), specWorks y hS.jobs i kq (by omega), Option.bind_some]
    cases worksB y i
    ·rw [if_neg (by simp), if_pos (by omega), specHas _ _ (by omega) kq (by omega), specHas _ _ (by omega) kq (by omega), Option.bind_some, Option.bind_some, Bool.false_or]
     unfold clearS
     cases (sortL (usedL y.f5.f2)).contains (rdD z51 y.f1 (i : Int)).f1 <;> cases (sortL (usedL y.f5.f2)).contains (rdD z51 y.f1 (i : Int)).f2 <;> rfl
    ·rfl)
  (fun kq hkq => by
    show spec_YardOk.l2 (kq + 1) y _ _ _ _ = _
    rw [spec_YardOk.l2, if_neg (by omega), specOnly _ hg (sortL (usedL y.f5.f2)) kq (by omega) _ rfl, Option.bind_some, hG, (hplan kq (by omega)).1, Option.bind_some])
  y.f1.length 0 k (by omega) (by omega)
 refine ⟨_, hspec, ?_, fun _ => hb3 rfl, vY.symm⟩
 rw [(hplan k (by omega)).2, Option.bind_some]
 by_cases h0 : r = 0
 ·rw [if_pos h0, decide_eq_true h0]
  have hff := foot_free G hL (hr0 h0)
  have himpl := all_gen y.f1.length (by omega) (fun k v => impl_YardOk.l0 k y (sortL (usedL y.f5.f2)) v)
   (fun i => worksB y i || clearI (sortL (usedL y.f5.f2)) (rdD z51 y.f1 (i : Int))) 2500000 true
   (fun kq i hi hkq => by
     show impl_YardOk.l0 (kq + 1) y _ _ = _
     have := heldL_len (rdD z51 y.f1 (i : Int))
     rw [impl_YardOk.l0, if_pos (by omega), if_pos (by omega), implWorks y hS.jobs i kq (by omega), Option.bind_some]
     cases worksB y i
     ·rw [if_neg (by simp), heldBy_eq, Option.bind_some, contains1 (heldL (rdD z51 y.f1 (i : Int))) _ (fun c => (sortL (usedL y.f5.f2)).contains c) (fun c _ => by unfold impl_YardOk_2.f; rw [implHas _ _ (by omega) kq (by omega)]; rfl) (by omega) kq (by omega), Option.bind_some, Bool.false_or]
      unfold clearI
      cases (heldL (rdD z51 y.f1 (i : Int))).any fun c => (sortL (usedL y.f5.f2)).contains c <;> rfl
     ·rfl)
   (fun kq _ => by show impl_YardOk.l0 (kq + 1) y _ _ = _; rw [impl_YardOk.l0, if_neg (by omega)])
   y.f1.length 0 k (by omega) (by omega)
  refine himpl.trans (congrArg some (congrArg (· && true) ?_))
  rw [Bool.eq_iff_iff, List.all_eq_true, List.all_eq_true]
  have same : ∀ i, i ∈ List.range' 0 y.f1.length → clearS (sortL (usedL y.f5.f2)) (rdD z51 y.f1 (i : Int)) = clearI (sortL (usedL y.f5.f2)) (rdD z51 y.f1 (i : Int)) := by
   intro i hi
   simp [List.mem_range'_1] at hi
   refine clear_eq _ (fun c hc => hff c ((sortL_mem _ _).1 hc)) _ ?_
   rw [rdn z51 _ i hi]
   have := solo_to hg (hsolo _ (List.getElem_mem hi))
   exact this.2.2.imp id fun h => h.1
  exact ⟨fun h i hi => by rw [same i hi]; exact h i hi, fun h i hi => by rw [← same i hi]; exact h i hi⟩
 ·rw [if_neg h0, decide_eq_false h0, Bool.and_false]
end Go.Proofs.YtfhjipfkaemapaaGreat.Pu