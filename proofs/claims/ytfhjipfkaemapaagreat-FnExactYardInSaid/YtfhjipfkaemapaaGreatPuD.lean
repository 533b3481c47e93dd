/- Plain laws about what the functions compute: the jobs of a plan. -/
import Derived.Test.YtfhjipfkaemapaaGreatPuB
namespace Go.Proofs.YtfhjipfkaemapaaGreat.Pu
open Go Go.Av Go.Proofs Go.Proofs.YtfhjipfkaemapaaGreat.V
set_option linter.unusedVariables false
set_option linter.unusedSimpArgs false
def robotI (rs : List S51) (x : Int) : Int := fidx (fun r => decide (r.f0 = x)) rs 0
theorem fidx_range {α : Type} (q : α → Bool) (c : Nat → Bool) (xs : List α) (h : ∀ i (hi : i < xs.length), c i = q xs[i]) : ∀ (d i : Nat), i + d = xs.length → fidx c (List.range' i d) i = fidx q (xs.drop i) i := by
 intro d
 induction d with
 | zero => intro i hi; rw [List.drop_eq_nil_of_le (by omega)]; rfl
 | succ d ih =>
   intro i hi
   rw [List.range'_succ, fidx, List.drop_eq_getElem_cons (show i < xs.length by omega), fidx, h i (by omega), ih (i + 1) (by omega)]
theorem specRobotAt (rs : List S51) (x : Int) (hb : rs.length ≤ 16777216) (k : Nat) (hk : rs.length < k) : spec_RobotAt.f k rs x = some (robotI rs x) := by
 unfold spec_RobotAt.f robotI
 have h := index_gen2 rs.length hb (fun k v => spec_RobotAt.l0 k rs x v) (fun i => decide ((rdD z51 rs (i : Nat)).f0 = x)) (fun kq i hi => by
  show spec_RobotAt.l0 (kq + 1) rs x _ = _
  rw [spec_RobotAt.l0, if_pos (by omega), if_pos (by omega)]
  by_cases e : (rdD z51 rs (i : Int)).f0 = x
  ·rw [if_pos e, decide_eq_true e]; rfl
  ·rw [if_neg e, decide_eq_false e]; rfl)
  (fun kq => by show spec_RobotAt.l0 (kq + 1) rs x _ = _; rw [spec_RobotAt.l0, if_neg (by omega)]) rs.length 0 k (by omega) hk
 rw [fidx_range (fun r => decide (r.f0 = x)) _ rs (fun i hi => by rw [rdn z51 rs i hi]) rs.length 0 (by omega), List.drop_zero] at h
 exact h
theorem implRobotAt (rs : List S51) (x : Int) (hb : rs.length ≤ 16777216) (k : Nat) (hk : rs.length < k) : impl_RobotAt.f k rs x = some (robotI rs x) := by
 unfold impl_RobotAt.f slices_IndexFunc_impl_Robot_impl_Robot_1.f
 rw [index_gen z51 slices_IndexFunc_impl_Robot_impl_Robot_1.l0 (fun _ _ _ _ => rfl) rs (fun q => impl_RobotAt_1.f q x) (fun r => decide (r.f0 = x)) (fun r _ => rfl) hb k hk]
 rfl
theorem robotI_rng (rs : List S51) (x : Int) : robotI rs x < rs.length ∧ (robotI rs x < 0 ∨ 0 ≤ robotI rs x) := by
 unfold robotI
 refine ⟨?_, by omega⟩
 rcases fidx_spec (fun r : S51 => decide (r.f0 = x)) rs 0 with ⟨h, _⟩ | ⟨j, hj, h, _⟩
 ·omega
 ·omega
def layerF (l : List S55) (m : Int) : Int := l.foldl (fun m y => if y.f1 < m then y.f1 else m) m
def layerI : List S55 → Int
 | [] => -1
 | x :: t => layerF t x.f1
theorem specLayer (y : S35) (hb : y.f6.length ≤ 1048576) (k : Nat) (hk : 1100000 ≤ k) : spec_LayerOf.f k y = some (layerI y.f6) := by
 have go : ∀ (d i k : Nat) (m : Int), 0 < i → i + d = y.f6.length → d < k → spec_LayerOf.l0 k y m (i : Int) = some (layerF (y.f6.drop i) m) := by
  intro d
  induction d with
  | zero =>
    intro i k m h0 hi hk
    obtain ⟨k, rfl⟩ := ks hk
    rw [spec_LayerOf.l0, if_neg (by omega), List.drop_eq_nil_of_le (by omega)]
    rfl
  | succ d ih =>
    intro i k m h0 hi hk
    obtain ⟨k, rfl⟩ := ks hk
    have hil : i < y.f6.length := by omega
    rw [spec_LayerOf.l0, if_pos (by omega), if_neg (by omega), if_pos (by omega), rdn z55 _ i hil, wn (by omega), ih (i + 1) k _ (by omega) (by omega) (by omega), ih (i + 1) k _ (by omega) (by omega) (by omega), List.drop_eq_getElem_cons hil, layerF, layerF, layerF, List.foldl_cons]
    split <;> rfl
 unfold spec_LayerOf.f
 obtain ⟨k, rfl⟩ := ks (show 0 < k by omega)
 generalize hj : y.f6 = js at go hb
 cases js with
 | nil => rw [spec_LayerOf.l0, hj, if_neg (by simp)]; rfl
 | cons x t =>
   have e1 : rdD z55 (x :: t) 0 = x := rfl
   rw [spec_LayerOf.l0, hj, if_pos (by simp), if_pos rfl, if_pos (by omega), e1, show w64 (0 + 1) = ((1 : Nat) : Int) from w64e (by omega) (by omega), go t.length 1 k x.f1 (by omega) (by simp; omega) (by simp at hb; omega)]
   rfl
theorem implLayer (y : S35) (hb : y.f6.length ≤ 1048576) (k : Nat) (hk : 1100000 ≤ k) : impl_LayerOf.f k y = some (layerI y.f6) := by
 have go : ∀ (js : List S55), js.length ≤ 1048576 → ∀ (d i k : Nat) (a m : Int) (b : Bool), i + d = js.length → d < k → ∃ r, slices_MinFunc_impl_Job_impl_Job_.l0 k js (fun x1359 x1360 => impl_LayerOf_1.f x1359 x1360) a m b (i : Int) = some r ∧ r.f1 = layerF (js.drop i) m := by
  intro js hjs d
  induction d with
  | zero =>
    intro i k a m b hi hk
    obtain ⟨k, rfl⟩ := ks hk
    rw [slices_MinFunc_impl_Job_impl_Job_.l0, if_neg (by omega), List.drop_eq_nil_of_le (by omega)]
    exact ⟨_, rfl, rfl⟩
  | succ d ih =>
    intro i k a m b hi hk
    obtain ⟨k, rfl⟩ := ks hk
    have hil : i < js.length := by omega
    rw [slices_MinFunc_impl_Job_impl_Job_.l0, if_pos (by omega), if_pos (by omega), rdn z55 _ i hil, wn (by omega), List.drop_eq_getElem_cons hil, layerF, List.foldl_cons]
    unfold impl_LayerOf_1.f impl_compare.f
    by_cases h1 : js[i].f1 < m
    ·rw [if_pos h1, if_pos h1]
     exact ih (i + 1) k _ _ _ (by omega) (by omega)
    ·rw [if_neg h1, if_neg h1]
     by_cases h2 : m < js[i].f1
     ·rw [if_pos h2]
      exact ih (i + 1) k _ _ _ (by omega) (by omega)
     ·rw [if_neg h2]
      exact ih (i + 1) k _ _ _ (by omega) (by omega)
 unfold impl_LayerOf.f slices_MinFunc_impl_Job_impl_Job_.f
 generalize y.f6 = js at hb ⊢
 cases js with
 | nil => rfl
 | cons x t =>
   rw [if_neg (by simp; omega), if_neg (by simp; omega), if_pos (by simp)]
   obtain ⟨r, h1, h2⟩ := go (x :: t) hb t.length 1 k (rdD z55 (x :: t) 0).f0 (rdD z55 (x :: t) 0).f1 (rdD z55 (x :: t) 0).f2 (by simp; omega) (by simp at hb; omega)
   rw [show (1 : Int) = ((1 : Nat) : Int) from rfl, h1, Option.bind_some, h2]
   rfl
def tailB (r : S51) (cells : List Int) (sp d : Int) (out : Bool) : Bool := decide (r.f1 = rdD 0 cells d) && (if out = true then decide (d < sp) && decide (r.f2 = rdD 0 cells (w64 (d + 1))) else decide (r.f2 = -1))
def jobB (y : S35) (least : Int) (i : Nat) : Bool :=
 decide (0 ≤ robotI y.f1 (rdD z55 y.f6 (i : Int)).f0) && (!(rdD z51 y.f1 (robotI y.f1 (rdD z55 y.f6 (i : Int)).f0)).f3 && (decide (0 ≤ (rdD z55 y.f6 (i : Int)).f1 ∧ (rdD z55 y.f6 (i : Int)).f1 ≤ y.f5.f0) && (!decide (w64 (least + 1) < (rdD z55 y.f6 (i : Int)).f1) &&
  (!((y.f6.take i).any fun x => decide (x.f0 = (rdD z55 y.f6 (i : Int)).f0)) && tailB (rdD z51 y.f1 (robotI y.f1 (rdD z55 y.f6 (i : Int)).f0)) (rdD z53 y.f5.f2 (i : Int)).f0 y.f5.f0 (rdD z55 y.f6 (i : Int)).f1 (rdD z55 y.f6 (i : Int)).f2))))
theorem take_any_range {α : Type} (q : α → Bool) (c : Nat → Bool) (xs : List α) (i : Nat) (hi : i ≤ xs.length) (h : ∀ j (hj : j < xs.length), c j = q xs[j]) : (List.range' 0 i).any c = (xs.take i).any q := by
 have := range_any (xs.take i) q c (fun j hj => by rw [List.getElem_take]; exact h j (by rw [List.length_take] at hj; omega))
 rwa [List.length_take, Nat.min_eq_left hi] at this
theorem tail_eq (r : S51) (cells : List Int) (sp d : Int) (out : Bool) (h0 : 0 ≤ d ∧ d ≤ sp) (hsp : sp ≤ 20) (hc : (cells.length : Int) = sp + 1) :
  (if 0 ≤ d then (if d < (cells.length : Int) then (if r.f1 = (rdD 0 cells d) then (if out = true then (if d < sp then (if 0 ≤ (w64 (d + 1)) then (if (w64 (d + 1)) < (cells.length : Int) then (some (decide (r.f2 = (rdD 0 cells (w64 (d + 1)))))) else none) else none) else (some false)) else (some (decide (r.f2 = (-1))))) else (some false)) else none) else none) = some (tailB r cells sp d out) := by
 unfold tailB
 have e1 : w64 (d + 1) = d + 1 := w64e (by omega) (by omega)
 rw [if_pos h0.1, if_pos (by omega), e1]
 by_cases h1 : r.f1 = rdD 0 cells d
 ·rw [if_pos h1, decide_eq_true h1, Bool.true_and]
  cases out
  ·rw [if_neg (by simp), if_neg (by simp)]
  ·rw [if_pos rfl, if_pos rfl]
   by_cases h2 : d < sp
   ·rw [if_pos h2, if_pos (by omega), if_pos (by omega), decide_eq_true h2, Bool.true_and]
   ·rw [if_neg h2, decide_eq_false h2, Bool.false_and]
 ·rw [if_neg h1, decide_eq_false h1, Bool.false_and]
section
variable (y : S35) (hr : y.f1.length ≤ 1048576) (hj : y.f6.length ≤ 10) (hw : y.f5.f2.length = y.f6.length) (hsp : y.f5.f0 ≤ 20)
include hr hj hw hsp
theorem specJob (i : Nat) (hi : i < y.f6.length) (hwl : (rdD z53 y.f5.f2 (i : Int)).f0.length ≤ 1048576) (k : Nat) (hk : 1200000 ≤ k) :
  spec_l21Job.f k y (i : Int) = some (decide (((rdD z53 y.f5.f2 (i : Int)).f0.length : Int) = y.f5.f0 + 1) && jobB y (layerI y.f6) i) := by
 unfold spec_l21Job.f jobB
 have hR := robotI_rng y.f1 (rdD z55 y.f6 (i : Int)).f0
 rw [if_pos (show (0 : Int) ≤ (i : Int) by omega), if_pos (show (i : Int) < (y.f6.length : Int) by omega), if_pos (show (i : Int) < (y.f5.f2.length : Int) by omega), specRobotAt _ _ (by omega) k (by omega), Option.bind_some]
 generalize robotI y.f1 (rdD z55 y.f6 (i : Int)).f0 = t at hR ⊢
 have e0 : w64 (((rdD z53 y.f5.f2 (i : Int)).f0.length : Int) - 1) = ((rdD z53 y.f5.f2 (i : Int)).f0.length : Int) - 1 := w64e (by omega) (by omega)
 rw [e0]
 by_cases h1 : ((rdD z53 y.f5.f2 (i : Int)).f0.length : Int) = y.f5.f0 + 1
 ·rw [if_pos (show ((rdD z53 y.f5.f2 (i : Int)).f0.length : Int) - 1 = y.f5.f0 by omega), decide_eq_true h1, Bool.true_and]
  by_cases h2 : t < 0
  ·rw [if_pos h2, decide_eq_false (by omega), Bool.false_and]
  ·rw [if_neg h2, if_pos (show 0 ≤ t by omega), if_pos (show t < (y.f1.length : Int) by omega), decide_eq_true (show 0 ≤ t by omega), Bool.true_and]
   cases h3 : (rdD z51 y.f1 t).f3
   ·rw [if_neg (by simp), l01In_eq, Option.bind_some, Bool.not_false, Bool.true_and]
    by_cases h4 : 0 ≤ (rdD z55 y.f6 (i : Int)).f1 ∧ (rdD z55 y.f6 (i : Int)).f1 ≤ y.f5.f0
    ·rw [if_pos (by simpa using h4), decide_eq_true h4, Bool.true_and, specLayer y (by omega) k (by omega), Option.bind_some]
     by_cases h5 : w64 (layerI y.f6 + 1) < (rdD z55 y.f6 (i : Int)).f1
     ·rw [if_pos h5, decide_eq_true h5]; rfl
     ·rw [if_neg h5, decide_eq_false h5, Bool.not_false, Bool.true_and]
      have hl : ∀ (d m k : Nat), m + d = i → d < k → spec_l21Job.l0 k (i : Int) y t (m : Int) = some (!((List.range' m d).any fun m => decide ((rdD z55 y.f6 (m : Nat)).f0 = (rdD z55 y.f6 (i : Int)).f0)) && tailB (rdD z51 y.f1 t) (rdD z53 y.f5.f2 (i : Int)).f0 y.f5.f0 (rdD z55 y.f6 (i : Int)).f1 (rdD z55 y.f6 (i : Int)).f2) := by
       intro d
       induction d with
       | zero =>
         intro m k hm hk
         obtain ⟨k, rfl⟩ := ks hk
         rw [spec_l21Job.l0, if_neg (by omega), tail_eq _ _ _ _ _ h4 hsp h1]
         rfl
       | succ d ih =>
         intro m k hm hk
         obtain ⟨k, rfl⟩ := ks hk
         rw [spec_l21Job.l0, if_pos (by omega), if_pos (by omega), if_pos (by omega), wn (by omega), ih (m + 1) k (by omega) (by omega), List.range'_succ, List.any_cons]
         by_cases h6 : (rdD z55 y.f6 (m : Int)).f0 = (rdD z55 y.f6 (i : Int)).f0
         ·rw [if_pos h6, decide_eq_true h6]; rfl
         ·rw [if_neg h6, decide_eq_false h6, Bool.false_or]
      rw [show (0 : Int) = ((0 : Nat) : Int) from rfl, hl i 0 k (by omega) (by omega), take_any_range (fun x => decide (x.f0 = (rdD z55 y.f6 (i : Int)).f0)) _ y.f6 i (by omega) (fun j hj => by rw [rdn z55 _ j hj])]
    ·rw [if_neg (by simpa using h4), decide_eq_false h4, Bool.false_and]
   ·rw [if_pos rfl]; rfl
 ·rw [if_neg (show ¬ ((rdD z53 y.f5.f2 (i : Int)).f0.length : Int) - 1 = y.f5.f0 by omega), decide_eq_false h1, Bool.false_and]
theorem implJob (i : Nat) (hi : i < y.f6.length) (h1 : ((rdD z53 y.f5.f2 (i : Int)).f0.length : Int) = y.f5.f0 + 1) (least : Int) (k : Nat) (hk : 1200000 ≤ k) :
  impl_isJob.f k y (i : Int) least = some (jobB y least i) := by
 unfold impl_isJob.f jobB
 have hR := robotI_rng y.f1 (rdD z55 y.f6 (i : Int)).f0
 rw [if_pos (show (0 : Int) ≤ (i : Int) by omega), if_pos (show (i : Int) < (y.f6.length : Int) by omega), if_pos (show (i : Int) < (y.f5.f2.length : Int) by omega), implRobotAt _ _ (by omega) k (by omega), Option.bind_some]
 generalize robotI y.f1 (rdD z55 y.f6 (i : Int)).f0 = t at hR ⊢
 by_cases h2 : t < 0
 ·rw [if_pos h2, decide_eq_false (by omega), Bool.false_and]
 ·rw [if_neg h2, if_pos (show 0 ≤ t by omega), if_pos (show t < (y.f1.length : Int) by omega), decide_eq_true (show 0 ≤ t by omega), Bool.true_and]
  cases h3 : (rdD z51 y.f1 t).f3
  ·rw [if_neg (by simp), Bool.not_false, Bool.true_and]
   by_cases h4 : 0 ≤ (rdD z55 y.f6 (i : Int)).f1 ∧ (rdD z55 y.f6 (i : Int)).f1 ≤ y.f5.f0
   ·rw [if_neg (show ¬ (rdD z55 y.f6 (i : Int)).f1 < 0 by omega), if_neg (show ¬ y.f5.f0 < (rdD z55 y.f6 (i : Int)).f1 by omega), decide_eq_true h4, Bool.true_and]
    by_cases h5 : w64 (least + 1) < (rdD z55 y.f6 (i : Int)).f1
    ·rw [if_pos h5, decide_eq_true h5]; rfl
    ·rw [if_neg h5, decide_eq_false h5, Bool.not_false, Bool.true_and, if_pos (show (i : Int) ≤ (y.f6.length : Int) by omega)]
     unfold slices_ContainsFunc_impl_Job_impl_Job_3.f slices_IndexFunc_impl_Job_impl_Job_3.f
     rw [show ((y.f6.drop (0 : Int).toNat).take ((i : Int).toNat - (0 : Int).toNat)) = y.f6.take i by simp, index_gen z55 slices_IndexFunc_impl_Job_impl_Job_3.l0 (fun _ _ _ _ => rfl) (y.f6.take i) (fun q => impl_isJob_1.f q (rdD z55 y.f6 (i : Int))) (fun x => decide (x.f0 = (rdD z55 y.f6 (i : Int)).f0)) (fun x _ => rfl) (by rw [List.length_take]; omega) k (by rw [List.length_take]; omega), Option.bind_some, fidx_any, Option.bind_some]
     cases (y.f6.take i).any fun x => decide (x.f0 = (rdD z55 y.f6 (i : Int)).f0)
     ·rw [if_neg (by simp), tail_eq _ _ _ _ _ h4 hsp h1]; rfl
     ·rw [if_pos rfl]; rfl
   ·rw [decide_eq_false h4, Bool.false_and]
    by_cases h5 : (rdD z55 y.f6 (i : Int)).f1 < 0
    ·rw [if_pos h5]
    ·rw [if_neg h5, if_pos (by omega)]
  ·rw [if_pos rfl]; rfl
end
structure JobsFit (y : S35) : Prop where
 span : 0 ≤ y.f5.f0 ∧ y.f5.f0 ≤ 20
 jobs : 1 ≤ y.f6.length ∧ y.f6.length ≤ 10
 ways : y.f5.f2.length = y.f6.length
 cells : ∀ w ∈ y.f5.f2, (w.f0.length : Int) = y.f5.f0 + 1
 done : ∀ j ∈ y.f6, 0 ≤ j.f1 ∧ j.f1 ≤ y.f5.f0
def FitB (y : S35) : Prop := (y.f4 = true → JobsFit y) ∧ (y.f4 = false → y.f6.length = 0)
theorem jobs_eq (y : S35) (hr : y.f1.length ≤ 1048576) (hj : y.f6.length ≤ 1048576) (hw : y.f5.f2.length ≤ 1048576) (hwl : ∀ w ∈ y.f5.f2, w.f0.length ≤ 1048576) (k : Nat) (hk : 1300000 ≤ k) :
  ∃ b, spec_JobsOk.f k y = some b ∧ impl_JobsOk.f k y = some b ∧ (b = true → FitB y) := by
 unfold spec_JobsOk.f impl_JobsOk.f impl_jobsOk.f
 cases ha : y.f4
 ·simp only [Bool.false_eq_true, if_false]
  by_cases c1 : y.f5.f0 = 0 <;> by_cases c2 : y.f5.f1 = 0 <;> by_cases c3 : (y.f5.f2.length : Int) = 0
  all_goals first
   | (rw [if_pos c1, if_pos c2, if_pos c3]; refine ⟨decide ((y.f6.length : Int) = 0), rfl, rfl, fun h => ⟨fun h2 => ?_, fun _ => ?_⟩⟩; (rw [ha] at h2; cases h2); (have := of_decide_eq_true h; omega))
   | (rw [if_pos c1, if_pos c2, if_neg c3]; exact ⟨_, rfl, rfl, fun h => by cases h⟩)
   | (rw [if_pos c1, if_neg c2]; exact ⟨_, rfl, rfl, fun h => by cases h⟩)
   | (rw [if_neg c1]; exact ⟨_, rfl, rfl, fun h => by cases h⟩)
 rw [if_pos rfl, if_pos rfl]
 unfold spec_l21Jobs.f
 by_cases h1 : 20 < y.f5.f0
 ·rw [if_pos h1, if_neg (show ¬ y.f5.f0 < 0 by omega), if_pos h1]
  exact ⟨false, rfl, rfl, fun h => by cases h⟩
 rw [if_neg h1, l01In_eq, Option.bind_some]
 by_cases h2 : 1 ≤ (y.f6.length : Int) ∧ (y.f6.length : Int) ≤ 10
 ·rw [if_pos (by simpa using h2)]
  by_cases h3 : (y.f6.length : Int) = (y.f5.f2.length : Int)
  ·rw [if_pos h3]
   have hW : ∀ i (hi : i < y.f5.f2.length), rdD z53 y.f5.f2 (i : Int) = y.f5.f2[i] := fun i hi => rdn z53 _ i hi
   have hl := all_gen y.f6.length (by omega) (fun k v => spec_l21Jobs.l0 k y v) (fun i => decide (((rdD z53 y.f5.f2 (i : Nat)).f0.length : Int) = y.f5.f0 + 1) && jobB y (layerI y.f6) i) 1200000 true
    (fun kq i hi hkq => by
      show spec_l21Jobs.l0 (kq + 1) y _ = _
      rw [spec_l21Jobs.l0, if_pos (by omega), specJob y hr (by omega) (by omega) (by omega) i hi (by rw [hW i (by omega)]; exact hwl _ (List.getElem_mem _)) kq hkq, Option.bind_some])
    (fun kq _ => by show spec_l21Jobs.l0 (kq + 1) y _ = _; rw [spec_l21Jobs.l0, if_neg (by omega)]) y.f6.length 0 k (by omega) (by omega)
   rw [Bool.and_true] at hl
   replace hl : spec_l21Jobs.l0 k y 0 = _ := hl
   rw [hl, Option.bind_some, specLayer y (by omega) k (by omega), Option.bind_some]
   by_cases h4 : y.f5.f0 < 0
   ·rw [if_pos h4]
    have hf : ((List.range' 0 y.f6.length).all fun i => decide (((rdD z53 y.f5.f2 (i : Nat)).f0.length : Int) = y.f5.f0 + 1) && jobB y (layerI y.f6) i) = false := by
     rw [← Bool.not_eq_true]
     intro h
     have := List.all_eq_true.1 h 0 (by simp [List.mem_range'_1]; omega)
     unfold jobB at this
     simp only [Bool.and_eq_true, decide_eq_true_eq] at this
     omega
    rw [hf]
    exact ⟨false, rfl, rfl, fun h => by cases h⟩
   rw [if_neg h4, if_neg h1, if_neg (show ¬ (y.f6.length : Int) < 1 by omega), if_neg (show ¬ 10 < (y.f6.length : Int) by omega), if_pos h3]
   have e1 : w64 (y.f5.f0 + 1) = y.f5.f0 + 1 := w64e (by omega) (by omega)
   unfold slices_ContainsFunc_impl_Way_impl_Way_3.f slices_IndexFunc_impl_Way_impl_Way_3.f
   rw [index_gen z53 slices_IndexFunc_impl_Way_impl_Way_3.l0 (fun _ _ _ _ => rfl) y.f5.f2 _ (fun w => !decide ((w.f0.length : Int) = y.f5.f0 + 1)) (fun w _ => by unfold impl_jobsOk_1.f; rw [e1]) (by omega) k (by omega), Option.bind_some, fidx_any, Option.bind_some]
   cases hb : y.f5.f2.any fun w => !decide ((w.f0.length : Int) = y.f5.f0 + 1)
   ·have hcl : ∀ w ∈ y.f5.f2, (w.f0.length : Int) = y.f5.f0 + 1 := by
     intro w hw
     have := List.any_eq_false.1 hb w hw
     simpa using this
    rw [if_neg (show ¬ (false = true) by simp), implLayer y (by omega) k (by omega), Option.bind_some]
    have hi := all_gen y.f6.length (by omega) (fun k v => impl_jobsOk.l0 k y (layerI y.f6) false v) (fun i => jobB y (layerI y.f6) i) 1200000 (decide (layerI y.f6 < y.f5.f0))
     (fun kq i hi hkq => by
       show impl_jobsOk.l0 (kq + 1) y _ _ _ = _
       rw [impl_jobsOk.l0, if_pos (by omega), implJob y hr (by omega) (by omega) (by omega) i hi (by rw [hW i (by omega)]; exact hcl _ (List.getElem_mem _)) _ kq hkq, Option.bind_some])
     (fun kq _ => by show impl_jobsOk.l0 (kq + 1) y _ _ _ = _; rw [impl_jobsOk.l0, if_neg (by omega), if_neg (by simp)]) y.f6.length 0 k (by omega) (by omega)
    replace hi : impl_jobsOk.l0 k y (layerI y.f6) false 0 = _ := hi
    have hs : ((List.range' 0 y.f6.length).all fun i => decide (((rdD z53 y.f5.f2 (i : Nat)).f0.length : Int) = y.f5.f0 + 1) && jobB y (layerI y.f6) i) = (List.range' 0 y.f6.length).all fun i => jobB y (layerI y.f6) i := by
     rw [Bool.eq_iff_iff, List.all_eq_true, List.all_eq_true]
     constructor
     ·intro h i hi
      have := h i hi
      rw [Bool.and_eq_true] at this
      exact this.2
     ·intro h i hi
      have h5 := h i hi
      simp [List.mem_range'_1] at hi
      rw [Bool.and_eq_true, hW i (by omega)]
      exact ⟨decide_eq_true (hcl _ (List.getElem_mem _)), h5⟩
    rw [hi, hs]
    cases hall : (List.range' 0 y.f6.length).all fun i => jobB y (layerI y.f6) i
    ·exact ⟨false, rfl, rfl, fun h => by cases h⟩
    ·refine ⟨_, rfl, rfl, fun _ => ⟨fun _ => ⟨⟨by omega, by omega⟩, ⟨by omega, by omega⟩, by omega, hcl, fun j hj => ?_⟩, fun h => by rw [ha] at h; cases h⟩⟩
     obtain ⟨i, hi, rfl⟩ := List.getElem_of_mem hj
     have h5 := List.all_eq_true.1 hall i (by simp [List.mem_range'_1]; omega)
     unfold jobB at h5
     rw [rdn z55 y.f6 i hi] at h5
     simp only [Bool.and_eq_true, decide_eq_true_eq] at h5
     exact h5.2.2.1
   ·rw [if_pos rfl]
    have hf : ((List.range' 0 y.f6.length).all fun i => decide (((rdD z53 y.f5.f2 (i : Nat)).f0.length : Int) = y.f5.f0 + 1) && jobB y (layerI y.f6) i) = false := by
     rw [← Bool.not_eq_true]
     intro h
     obtain ⟨w, hw1, hw2⟩ := List.any_eq_true.1 hb
     obtain ⟨i, hi, rfl⟩ := List.getElem_of_mem hw1
     have := List.all_eq_true.1 h i (by simp [List.mem_range'_1]; omega)
     rw [Bool.and_eq_true, hW i hi] at this
     simp at hw2
     exact hw2 (of_decide_eq_true this.1)
    rw [hf]
    exact ⟨false, rfl, rfl, fun h => by cases h⟩
  ·rw [if_neg h3]
   refine ⟨false, rfl, ?_, fun h => by cases h⟩
   by_cases h4 : y.f5.f0 < 0
   ·rw [if_pos h4]; rfl
   ·rw [if_neg h4, if_neg h1, if_neg (show ¬ (y.f6.length : Int) < 1 by omega), if_neg (show ¬ 10 < (y.f6.length : Int) by omega), if_neg h3]; rfl
 ·rw [if_neg (by simpa using h2)]
  refine ⟨false, rfl, ?_, fun h => by cases h⟩
  by_cases h4 : y.f5.f0 < 0
  ·rw [if_pos h4]; rfl
  ·rw [if_neg h4, if_neg h1]
   by_cases h5 : (y.f6.length : Int) < 1
   ·rw [if_pos h5]; rfl
   ·rw [if_neg h5, if_pos (by omega)]; rfl
end Go.Proofs.YtfhjipfkaemapaaGreat.Pu