/- The law FnExactIssued over numbers and lists alone: it answers true for every input; no condition beside the bounds of the kinds. -/
import Derived.Test.YtoaknaceaghclaaGreatOpFnExactIssued
import Derived.Test.YtoaknaceaghclaaGreatPuM
namespace Go.Proofs.YtoaknaceaghclaaGreat.Pure
open Go Go.Av Go.Proofs Go.Proofs.YtoaknaceaghclaaGreat.V Go.Proofs.YtoaknaceaghclaaGreat.Pu
set_option linter.unusedVariables false
set_option linter.unusedSimpArgs false
theorem fidx_map {α β : Type} (g : α → β) (q : β → Bool) : ∀ (l : List α) (i : Nat), fidx (fun x => q (g x)) l i = fidx q (l.map g) i
  | [], i => rfl
  | x :: l, i => by
    rw [List.map_cons]
    unfold fidx
    rw [fidx_map g q l (i + 1)]
theorem robotI_ids (rs : List S69) (x : Int) : robotI rs x = fidx (fun z => decide (z = x)) (rs.map S69.f0) 0 := fidx_map S69.f0 (fun z => decide (z = x)) rs 0
def updR (rs : List S69) (o : S92) : List S69 := rs.set (robotI rs o.f0).toNat ⟨(rdD z69 rs (robotI rs o.f0)).f0, (rdD z69 rs (robotI rs o.f0)).f1, o.f2, (rdD z69 rs (robotI rs o.f0)).f3⟩
def outJ (x : Int) (j : S74) : S74 := if j.f0 = x then ⟨j.f0, j.f1, true⟩ else j
def updJ (js : List S74) (o : S92) : List S74 := js.map (outJ o.f0)
def foldI : List S92 → List S69 × List S74 → List S69 × List S74
  | [], p => p
  | o :: l, p => foldI l (updR p.1 o, updJ p.2 o)
theorem outJ_id (x : Int) (j : S74) : (outJ x j).f0 = j.f0 := by unfold outJ; split <;> rfl
theorem updJ_ids (js : List S74) (o : S92) : (updJ js o).map S74.f0 = js.map S74.f0 := by
  unfold updJ
  rw [List.map_map]
  exact List.map_congr_left fun j _ => outJ_id _ j
theorem updR_ids (rs : List S69) (o : S92) (h : 0 ≤ robotI rs o.f0) : (updR rs o).map S69.f0 = rs.map S69.f0 := by
  obtain ⟨h1, _⟩ := robotI_rng rs o.f0
  obtain ⟨m, hm⟩ : ∃ m : Nat, robotI rs o.f0 = (m : Int) := ⟨(robotI rs o.f0).toNat, by omega⟩
  unfold updR
  rw [hm, rdn z69 rs m (by omega), Int.toNat_natCast, List.map_set]
  apply List.ext_getElem (by simp)
  intro i hi1 hi2
  rw [List.getElem_set]
  split
  · rename_i e; subst e; simp
  · rfl
theorem updR_len (rs : List S69) (o : S92) : (updR rs o).length = rs.length := by unfold updR; simp
theorem updJ_len (js : List S74) (o : S92) : (updJ js o).length = js.length := by unfold updJ; simp
theorem foldI_len : ∀ (l : List S92) (p : List S69 × List S74), (foldI l p).1.length = p.1.length ∧ (foldI l p).2.length = p.2.length
  | [], p => ⟨rfl, rfl⟩
  | o :: l, p => by
    obtain ⟨h1, h2⟩ := foldI_len l (updR p.1 o, updJ p.2 o)
    rw [foldI, h1, h2]
    exact ⟨updR_len _ _, updJ_len _ _⟩
def Dst (l : List Int) : Prop := ∀ a b (ha : a < l.length) (hb : b < l.length), l[a] = l[b] → a = b
/-- The first job with the name is the one with it. -/
theorem job_at (js : List S74) (hn : Dst (js.map S74.f0)) (x : Int) (hx : x ∈ js.map S74.f0) : ∃ m : Nat, ∃ h : m < js.length, fidx (fun j => decide (j.f0 = x)) js 0 = (m : Int) ∧ js.set m ⟨js[m].f0, js[m].f1, true⟩ = js.map (outJ x) := by
  rcases fidx_spec (fun j : S74 => decide (j.f0 = x)) js 0 with ⟨_, h⟩ | ⟨m, hm, h1, h2, _⟩
  · obtain ⟨j, hj, rfl⟩ := List.mem_map.1 hx
    have := h j hj
    simp at this
  · rw [Nat.zero_add] at h1
    have h2 : js[m].f0 = x := by simpa using h2
    refine ⟨m, hm, h1, ?_⟩
    apply List.ext_getElem (by simp)
    intro i hi1 hi2
    rw [List.getElem_set, List.getElem_map]
    unfold outJ
    split
    · rename_i e
      subst e
      rw [if_pos h2]
    · rename_i e
      rw [if_neg]
      intro h3
      have hil : i < js.length := by simpa using hi2
      exact e (hn m i (by simpa using hm) (by simpa using hil) (by simp [h2, h3]))
theorem spec_inner (O : List S92) (i : Nat) (hi : i < O.length) (js : List S74) (hj : js.length ≤ 1048576) (k : Nat) (hk : 1100000 ≤ k) : spec_Issued.l1 k O (i : Int) js 0 = some (updJ js O[i]) :=
  map_gen z74 js hj (outJ O[i].f0) (fun k o v => spec_Issued.l1 k O (i : Int) o v) 0
    (fun kq out m hm _ ho hrd hid => by
      show spec_Issued.l1 (kq + 1) O (i : Int) out _ = _
      rw [spec_Issued.l1, if_pos (by omega), if_pos (by omega), hrd, rdn z92 O i hi, Int.toNat_natCast]
      unfold outJ at hid ⊢
      by_cases c : js[m].f0 = O[i].f0
      · rw [if_pos c, if_pos c]
      · rw [if_neg c] at hid
        rw [if_neg c, if_neg c, hid rfl])
    (fun kq out _ ho => by show spec_Issued.l1 (kq + 1) O (i : Int) out _ = _; rw [spec_Issued.l1, if_neg (by omega)]) k (by omega)
theorem issue_go (O : List S92) (hO : O.length ≤ 1048576) (t : S48) (R : List S69) (J : List S74) (hR : R.length ≤ 1048576) (hJ : J.length ≤ 1048576) (hn : Dst (J.map S74.f0)) (hr : ∀ o ∈ O, 0 ≤ robotI R o.f0) (hj : ∀ o ∈ O, o.f0 ∈ J.map S74.f0) :
    ∀ (d i k : Nat) (rs : List S69) (js : List S74), i + d = O.length → 1200000 + d < k → rs.map S69.f0 = R.map S69.f0 → js.map S74.f0 = J.map S74.f0 →
      spec_Issued.l0 k O t rs js (i : Int) = some (⟨t.f0, (foldI (O.drop i) (rs, js)).1, t.f2, t.f3, t.f4, t.f5, (foldI (O.drop i) (rs, js)).2, t.f7⟩ : S48) ∧
      impl_Issued.l0 k O t rs js (i : Int) = some (⟨t.f0, (foldI (O.drop i) (rs, js)).1, t.f2, t.f3, t.f4, t.f5, (foldI (O.drop i) (rs, js)).2, t.f7⟩ : S48) := by
  intro d
  induction d with
  | zero =>
    intro i k rs js hi hk h1 h2
    obtain ⟨k, rfl⟩ := ks hk
    obtain rfl : i = O.length := by omega
    rw [spec_Issued.l0, impl_Issued.l0, if_neg (by omega), if_neg (by omega), List.drop_length]
    exact ⟨rfl, rfl⟩
  | succ d ih =>
    intro i k rs js hi hk h1 h2
    obtain ⟨k, rfl⟩ := ks hk
    have hil : i < O.length := by omega
    have hrl : rs.length = R.length := by simpa using congrArg List.length h1
    have hjl : js.length = J.length := by simpa using congrArg List.length h2
    have e0 : robotI rs O[i].f0 = robotI R O[i].f0 := by rw [robotI_ids, robotI_ids, h1]
    have hr0 := hr _ (List.getElem_mem hil)
    have hr1 := robotI_rng rs O[i].f0
    obtain ⟨m, hm, hm1, hm2⟩ := job_at js (by rw [h2]; exact hn) O[i].f0 (by rw [h2]; exact hj _ (List.getElem_mem hil))
    have hI : slices_IndexFunc_impl_Job_impl_Job_3.f k js (fun x => impl_Issued_1.f x O[i]) = some (m : Int) := by
      unfold slices_IndexFunc_impl_Job_impl_Job_3.f
      rw [index_gen z74 slices_IndexFunc_impl_Job_impl_Job_3.l0 (fun _ _ _ _ => rfl) js (fun x => impl_Issued_1.f x O[i]) (fun j => decide (j.f0 = O[i].f0)) (fun x _ => rfl) (by omega) k (by omega), hm1]
    have hA := specRobotAt rs O[i].f0 (by omega) k (by omega)
    have hB := implRobotAt rs O[i].f0 (by omega) k (by omega)
    have ids1 : (updR rs O[i]).map S69.f0 = R.map S69.f0 := (updR_ids rs O[i] (by omega)).trans h1
    have ids2 : (updJ js O[i]).map S74.f0 = J.map S74.f0 := (updJ_ids js O[i]).trans h2
    obtain ⟨q1, q2⟩ := ih (i + 1) k (updR rs O[i]) (updJ js O[i]) (by omega) (by omega) ids1 ids2
    rw [List.drop_eq_getElem_cons hil, foldI]
    constructor
    · rw [spec_Issued.l0, if_pos (by omega), if_pos (by omega), rdn z92 O i hil, hA, Option.bind_some, if_pos (by omega), if_pos (by omega), spec_inner O i hil js (by omega) k (by omega), Option.bind_some, wn (by omega)]
      exact q1
    · rw [impl_Issued.l0, if_pos (by omega), if_pos (by omega), rdn z92 O i hil, hI, Option.bind_some, if_pos (by omega), if_pos (by omega), hB, Option.bind_some, if_pos (by omega), if_pos (by omega), wn (by omega), rdn z74 js m hm, Int.toNat_natCast, hm2]
      exact q2
def issY (y : S48) : S48 := ⟨y.f0, (foldI (ordL y) (y.f1, y.f6)).1, y.f2, y.f3, y.f4, y.f5, (foldI (ordL y) (y.f1, y.f6)).2, y.f7⟩
theorem issY_sized (y : S48) (h : Sized y) : Sized (issY y) := by
  obtain ⟨h1, h2⟩ := foldI_len (ordL y) (y.f1, y.f6)
  exact ⟨h.grid, by rw [issY, h1]; exact h.robots, h.counts, h.ways, h.cells, by rw [issY, h2]; exact h.jobs, h.goals⟩
theorem issued_eq (y : S48) (hS : Sized y) (k : Nat) (hk : 5300000 ≤ k) : spec_Issued.f k y = some (issY y) ∧ impl_Issued.f k y = some (issY y) := by
  obtain ⟨e1, e2⟩ := orders_eq y hS k hk
  obtain ⟨_, _, hF⟩ := yard_eq y hS k (by omega)
  unfold spec_Issued.f impl_Issued.f
  rw [e1, e2, copyYard y hS k (by omega), specCopyYard y hS k (by omega)]
  simp only [Option.bind_some]
  have hl := ordL_len y hF
  by_cases hb : yardB y = true ∧ y.f4 = true
  · have hJ := (hF hb.1).1 hb.2
    have hjn := hJ.jobs
    have hjob : ∀ i, i < y.f6.length → jobB y (layerI y.f6) i = true := fun i hi => by
      have h := hb.1
      unfold yardB jobsB at h
      rw [if_pos hb.2] at h
      simp only [Bool.and_eq_true, decide_eq_true_eq, List.all_eq_true] at h
      exact (h.2.2.2.2.2.2.1.2.2.2.1 i (by simp [List.mem_range'_1]; omega)).2
    have hnd : Dst (y.f6.map S74.f0) := by
      have key : ∀ (a b : Nat) (ha : a < y.f6.length) (hb : b < y.f6.length), a < b → y.f6[a].f0 ≠ y.f6[b].f0 := fun a b ha hb hlt he => by
        have h := hjob b hb
        unfold jobB at h
        simp only [Bool.and_eq_true] at h
        have h3 := h.2.2.2.2.1
        rw [rdn z74 _ b hb] at h3
        have h4 : ((y.f6.take b).any fun x => decide (x.f0 = y.f6[b].f0)) = true := List.any_eq_true.2 ⟨y.f6[a], by
          rw [List.mem_take_iff_getElem]
          exact ⟨a, by omega, rfl⟩, by simpa using he⟩
        rw [h4] at h3
        cases h3
      intro a b ha hb he
      simp only [List.length_map] at ha hb
      simp only [List.getElem_map] at he
      rcases Nat.lt_trichotomy a b with h | h | h
      · exact absurd he (key a b ha hb h)
      · exact h
      · exact absurd he.symm (key b a hb ha h)
    have hmem : ∀ o ∈ ordL y, ∃ i, i < y.f6.length ∧ o = ordO y i := fun o ho => by
      unfold ordL at ho
      rw [if_pos hb] at ho
      obtain ⟨i, hi, rfl⟩ := List.mem_map.1 ho
      have := (List.mem_filter.1 hi).1
      simp [List.mem_range'_1] at this
      exact ⟨i, this, rfl⟩
    have h := issue_go (ordL y) (by omega) y y.f1 y.f6 hS.robots hS.jobs hnd
      (fun o ho => by
        obtain ⟨i, hi, rfl⟩ := hmem o ho
        have h := hjob i hi
        unfold jobB at h
        simp only [Bool.and_eq_true, decide_eq_true_eq] at h
        exact h.1)
      (fun o ho => by
        obtain ⟨i, hi, rfl⟩ := hmem o ho
        unfold ordO
        rw [rdn z74 _ i hi]
        exact List.mem_map.2 ⟨_, List.getElem_mem hi, rfl⟩) (ordL y).length 0 k y.f1 y.f6 (by omega) (by omega) rfl rfl
    rw [List.drop_zero] at h
    exact h
  · have e0 : ordL y = [] := by unfold ordL; rw [if_neg hb]
    obtain ⟨k, rfl⟩ := ks (show 0 < k by omega)
    unfold issY
    rw [e0, spec_Issued.l0, impl_Issued.l0, if_neg (by simp), if_neg (by simp)]
    exact ⟨rfl, rfl⟩
theorem FnExactIssued : OpFnExactIssued.Pure := by
  intro y ok
  obtain ⟨⟨⟨_, _, o1⟩, _⟩, ⟨o2, _⟩, ⟨_, _, o3, _⟩, _, _, ⟨_, _, o4, o5⟩, ⟨o6, _⟩, ⟨o7, _⟩⟩ := ok
  obtain ⟨K, hK⟩ : ∃ K : Nat, 5300000 ≤ K := ⟨5300000, Nat.le_refl _⟩
  refine ⟨K, ?_⟩
  obtain ⟨t, e1, h1⟩ := szYard y o1 o2 o3 o4 (fun x hx => (o5 x hx).1) o6 o7 K (by omega)
  unfold laws_FnExactIssued.f
  rw [e1, Option.bind_some]
  by_cases h2 : t < 0
  · rw [if_pos h2]
  have hI := h1 (by omega)
  have hS := hI.out
  rw [if_neg h2, toYard hI K (by omega), Option.bind_some]
  obtain ⟨e2, e3⟩ := issued_eq _ hS K (by omega)
  have hS2 := issY_sized _ hS
  obtain ⟨r, e4, h4⟩ := markYard _ hS K (by omega)
  obtain ⟨r2, e5, h5, e6⟩ := markHeld _ hS2 K (by omega) (issY (cvYard y)).f0 (issY (cvYard y)).f2.f0 (issY (cvYard y)).f2.f1 (issY (cvYard y)).f3 (issY (cvYard y)).f4 (issY (cvYard y)).f5.f0 (issY (cvYard y)).f5.f1
  simp only [e2, e3, e4, e5, e6, Option.bind_some, if_true, eqYard _ hS K (by omega), eqYard _ hS2 K (by omega)]
  rw [if_neg (by omega), if_neg (by omega), if_neg (by omega)]
end Go.Proofs.YtoaknaceaghclaaGreat.Pure
