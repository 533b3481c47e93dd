/- Plain laws about what the functions compute: the cells around a cell; teams of robots. -/
import Derived.Test.YtfhjipfkaemapaaGreatPuA
namespace Go.Proofs.YtfhjipfkaemapaaGreat.Pu
open Go Go.Av Go.Proofs Go.Proofs.YtfhjipfkaemapaaGreat.V
set_option linter.unusedVariables false
set_option linter.unusedSimpArgs false
theorem any_gen (n : Nat) (hn : n ≤ 16777216) (L : Nat → Int → Option Bool) (c : Nat → Bool) (C : Nat) (fin : Bool)
  (h1 : ∀ kq i, i < n → C ≤ kq → L (kq + 1) (i : Int) = if c i = true then some true else L kq (w64 ((i : Int) + 1))) (h2 : ∀ kq, C ≤ kq → L (kq + 1) (n : Int) = some fin) :
  ∀ d i k, i + d = n → C + d < k → L k (i : Int) = some ((List.range' i d).any c || fin) := by
 intro d
 induction d with
 | zero =>
   intro i k hi hk
   obtain ⟨k, rfl⟩ := ks hk
   obtain rfl : i = n := by omega
   rw [h2 k (by omega)]
   rfl
 | succ d ih =>
   intro i k hi hk
   obtain ⟨k, rfl⟩ := ks hk
   rw [h1 k i (by omega) (by omega), wn (by omega), ih (i + 1) k (by omega) (by omega), List.range'_succ, List.any_cons]
   cases c i <;> rfl
theorem range_any {α : Type} (l : List α) (q : α → Bool) (c : Nat → Bool) (h : ∀ i (hi : i < l.length), c i = q l[i]) : (List.range' 0 l.length).any c = l.any q := by
 rw [Bool.eq_iff_iff, List.any_eq_true, List.any_eq_true]
 constructor
 ·rintro ⟨i, hi, h1⟩
  simp [List.mem_range'_1] at hi
  exact ⟨l[i], List.getElem_mem hi, by rw [← h i hi]; exact h1⟩
 ·rintro ⟨x, hx, h1⟩
  obtain ⟨i, hi, rfl⟩ := List.getElem_of_mem hx
  exact ⟨i, by simp [List.mem_range'_1]; omega, by rw [h i hi]; exact h1⟩
theorem any_has (xs : List Int) (x : Int) : (xs.any fun y => decide (y = x)) = xs.contains x := by
 rw [Bool.eq_iff_iff]
 simp
theorem specHas (xs : List Int) (x : Int) (hb : xs.length ≤ 16777216) (k : Nat) (hk : xs.length < k) : spec_l03Has.f k xs x = some (xs.contains x) := by
 have hl := any_gen xs.length hb (fun k v => spec_l03Has.l0 k xs x v) (fun i => decide (rdD 0 xs (i : Nat) = x)) 0 false
  (fun kq i hi _ => by
    show spec_l03Has.l0 (kq + 1) xs x _ = _
    rw [spec_l03Has.l0, if_pos (by omega), if_pos (by omega)]
    by_cases e : rdD 0 xs (i : Int) = x
    ·rw [if_pos e, decide_eq_true e]; rfl
    ·rw [if_neg e, decide_eq_false e]; rfl)
  (fun kq _ => by show spec_l03Has.l0 (kq + 1) xs x _ = _; rw [spec_l03Has.l0, if_neg (by omega)]) xs.length 0 k (by omega) (by omega)
 rw [Bool.or_false, range_any xs (fun y => decide (y = x)) _ (fun i hi => by rw [rdn 0 xs i hi]), any_has] at hl
 exact hl
theorem index_gen2 (n : Nat) (hn : n ≤ 16777216) (L : Nat → Int → Option Int) (c : Nat → Bool)
  (h1 : ∀ kq i, i < n → L (kq + 1) (i : Int) = if c i = true then some (i : Int) else L kq (w64 ((i : Int) + 1))) (h2 : ∀ kq, L (kq + 1) (n : Int) = some (-1)) :
  ∀ d i k, i + d = n → d < k → L k (i : Int) = some (fidx c (List.range' i d) i) := by
 intro d
 induction d with
 | zero =>
   intro i k hi hk
   obtain ⟨k, rfl⟩ := ks hk
   obtain rfl : i = n := by omega
   rw [h2 k]
   rfl
 | succ d ih =>
   intro i k hi hk
   obtain ⟨k, rfl⟩ := ks hk
   rw [h1 k i (by omega), wn (by omega), ih (i + 1) k (by omega) (by omega), List.range'_succ, fidx]
   cases c i <;> rfl
theorem implHas (xs : List Int) (x : Int) (hb : xs.length ≤ 16777216) (k : Nat) (hk : xs.length < k) : slices_Contains_int_int.f k xs x = some (xs.contains x) := by
 unfold slices_Contains_int_int.f slices_Index_int_int.f
 have h := index_gen2 xs.length hb (fun k v => slices_Index_int_int.l0 k xs x v) (fun i => decide (rdD 0 xs (i : Nat) = x)) (fun kq i hi => by
  show slices_Index_int_int.l0 (kq + 1) xs x _ = _
  rw [slices_Index_int_int.l0, if_pos (by omega), if_pos (by omega)]
  by_cases e : rdD 0 xs (i : Int) = x
  ·rw [if_pos e.symm, decide_eq_true e]; rfl
  ·rw [if_neg (fun h => e h.symm), decide_eq_false e]; rfl)
  (fun kq => by show slices_Index_int_int.l0 (kq + 1) xs x _ = _; rw [slices_Index_int_int.l0, if_neg (by omega)]) xs.length 0 k (by omega) hk
 replace h : slices_Index_int_int.l0 k xs x 0 = _ := h
 rw [h, Option.bind_some, fidx_any, range_any xs (fun y => decide (y = x)) _ (fun i hi => by rw [rdn 0 xs i hi]), any_has]
def aroundL (g : S24) (c : Int) : List Int :=
 (if freeB g.f2 (c - g.f0) = true then [c - g.f0] else []) ++ (if 0 < Int.tmod c g.f0 ∧ freeB g.f2 (c - 1) = true then [c - 1] else []) ++ (if Int.tmod c g.f0 < g.f0 - 1 ∧ freeB g.f2 (c + 1) = true then [c + 1] else []) ++ (if freeB g.f2 (c + g.f0) = true then [c + g.f0] else [])
theorem aroundL_mem {g : S24} {c t : Int} (hw : 1 ≤ g.f0) (ht : t ∈ aroundL g c) : freeB g.f2 t = true ∧ t ≠ c := by
 unfold aroundL at ht
 simp only [List.mem_append] at ht
 rcases ht with ((ht | ht) | ht) | ht
 ·split at ht
  ·rw [List.mem_singleton] at ht; subst ht; exact ⟨by assumption, by omega⟩
  ·simp at ht
 ·split at ht
  ·rename_i hh; rw [List.mem_singleton] at ht; subst ht; exact ⟨hh.2, by omega⟩
  ·simp at ht
 ·split at ht
  ·rename_i hh; rw [List.mem_singleton] at ht; subst ht; exact ⟨hh.2, by omega⟩
  ·simp at ht
 ·split at ht
  ·rw [List.mem_singleton] at ht; subst ht; exact ⟨by assumption, by omega⟩
  ·simp at ht
theorem aroundL_len (g : S24) (c : Int) : (aroundL g c).length ≤ 4 := by
 unfold aroundL
 simp only [List.length_append]
 repeat' split
 all_goals simp
theorem cellAt (g : S24) (hg : gridB g = true) (x y : Int) (hx : -2 ≤ x ∧ x ≤ 100) (hy : -2 ≤ y ∧ y ≤ 100) (k : Nat) (hk : 1100000 ≤ k) :
  spec_CellAt.f k g x y = some (if (0 ≤ x ∧ x ≤ g.f0 - 1) ∧ (0 ≤ y ∧ y ≤ g.f1 - 1) then y * g.f0 + x else -1) := by
 obtain ⟨h1, h2, h3⟩ := gridB_iff hg
 have h4 := gridB_size hg
 unfold spec_CellAt.f
 rw [specGrid g (by omega) k hk, hg]
 simp only [Option.bind_some, if_true, l01In_eq, decide_eq_true_eq]
 rw [w64e (x := g.f0 - 1) (by omega) (by omega), w64e (x := g.f1 - 1) (by omega) (by omega)]
 by_cases hx2 : 0 ≤ x ∧ x ≤ g.f0 - 1
 ·rw [if_pos hx2]
  by_cases hy2 : 0 ≤ y ∧ y ≤ g.f1 - 1
  ·have hyw : 0 ≤ y * g.f0 ∧ y * g.f0 ≤ 800 := by
    constructor
    ·exact Int.mul_nonneg hy2.1 (by omega)
    ·have : y * g.f0 ≤ 100 * g.f0 := Int.mul_le_mul_of_nonneg_right hy.2 (by omega)
     omega
   rw [if_pos hy2, if_pos ⟨hx2, hy2⟩, w64e (x := y * g.f0) (by omega) (by omega), w64e (by omega) (by omega)]
  ·rw [if_neg hy2, if_neg (fun g => hy2 g.2)]
 ·rw [if_neg hx2, if_neg (fun g => hx2 g.1)]
theorem around_filter (g : S24) (hg : gridB g = true) (a b c e : Int) : ∀ (d i k : Nat) (acc : List Int), i + d = 4 → 1100001 + d ≤ k → acc.length ≤ i → spec_Around.l0 k a b c e g acc (i : Int) = some (acc ++ ([a, b, c, e].drop i).filter (freeB g.f2)) := by
 have h4 := gridB_size hg
 intro d
 induction d with
 | zero =>
   intro i k acc h hk ha
   obtain ⟨k, rfl⟩ := ks (show 0 < k by omega)
   rw [spec_Around.l0, if_neg (by omega), List.drop_of_length_le (by simp; omega)]
   simp
 | succ d ih =>
   intro i k acc h' hk ha
   obtain ⟨k, rfl⟩ := ks (show 0 < k by omega)
   have hi : i < [a, b, c, e].length := by simp; omega
   rw [spec_Around.l0, if_pos (by omega), if_pos (by omega), if_pos (by simp; omega), specFree g _ (by omega) k (by omega), hg, List.drop_eq_getElem_cons hi, wn (by omega), rdn 0 _ i hi]
   simp only [Option.bind_some, Bool.true_and]
   cases hf : freeB g.f2 [a, b, c, e][i]
   ·rw [if_neg (by simp), ih (i + 1) k acc (by omega) (by omega) (by omega), List.filter_cons_of_neg (by simp [hf])]
   ·rw [if_pos rfl, if_pos (by omega), ih (i + 1) k (acc ++ [[a, b, c, e][i]]) (by omega) (by omega) (by simp; omega), List.filter_cons_of_pos hf, List.append_assoc]
    rfl
theorem mod_div (c w : Int) (h0 : 0 ≤ c) (h1 : 1 ≤ w) : 0 ≤ Int.tmod c w ∧ Int.tmod c w < w ∧ 0 ≤ Int.tdiv c w ∧ Int.tdiv c w * w + Int.tmod c w = c ∧ Int.tdiv c w ≤ c := by
 have e1 : Int.tmod c w = c % w := Int.tmod_eq_emod_of_nonneg h0
 have e2 : Int.tdiv c w = c / w := Int.tdiv_eq_ediv_of_nonneg h0
 rw [e1, e2]
 refine ⟨Int.emod_nonneg _ (by omega), Int.emod_lt_of_pos _ (by omega), Int.ediv_nonneg h0 (by omega), ?_, ?_⟩
 ·have := Int.ediv_mul_add_emod c w; omega
 ·exact Int.ediv_le_self _ h0
theorem filter4 (p : Int → Bool) (a b c d : Int) : [a, b, c, d].filter p = (if p a = true then [a] else []) ++ (if p b = true then [b] else []) ++ (if p c = true then [c] else []) ++ (if p d = true then [d] else []) := by
 simp only [List.filter_cons, List.filter_nil]
 cases p a <;> cases p b <;> cases p c <;> cases p d <;> rfl
def aroundF (g : S24) (c : Int) : List Int := if freeB g.f2 c = true then aroundL g c else []
theorem aroundF_len (g : S24) (c : Int) : (aroundF g c).length ≤ 4 := by
 unfold aroundF
 split
 ·exact aroundL_len g c
 ·simp
set_option maxHeartbeats 1000000 in
theorem specAround (g : S24) (hg : gridB g = true) (c : Int) (k : Nat) (hk : 1200000 ≤ k) : spec_Around.f k g c = some (aroundF g c) := by
 obtain ⟨g1, g2, g3⟩ := gridB_iff hg
 have g4 := gridB_size hg
 unfold spec_Around.f spec_SpotOf.f aroundF
 rw [specFree g c (by omega) k (by omega), specGrid g (by omega) k (by omega), hg]
 cases hc : freeB g.f2 c
 ·rfl
 have hr := freeB_rng hc
 obtain ⟨m1, m2, m3, m4, m5⟩ := mod_div c g.f0 hr.1 g1.1
 obtain ⟨x, hx⟩ : ∃ x, Int.tmod c g.f0 = x := ⟨_, rfl⟩
 obtain ⟨y, hy⟩ : ∃ y, Int.tdiv c g.f0 = y := ⟨_, rfl⟩
 have hyh : y ≤ g.f1 - 1 := by
  rw [hx, hy] at m4
  by_cases hlt : y < g.f1
  ·omega
  ·have : g.f1 * g.f0 ≤ y * g.f0 := Int.mul_le_mul_of_nonneg_right (by omega) (by omega)
   have e : g.f0 * g.f1 = g.f1 * g.f0 := Int.mul_comm _ _
   rw [hx] at m1
   omega
 simp only [Option.bind_some, Bool.true_and, if_true]
 rw [if_neg (by omega), if_neg (by omega), if_pos (by omega)]
 simp only [Option.bind_some]
 rw [hx, hy]
 rw [hx] at m1 m2 m4
 rw [hy] at m3 m4 m5
 rw [w64e (x := y) (by omega) (by omega), w64e (x := y - 1) (by omega) (by omega), w64e (x := x - 1) (by omega) (by omega), w64e (x := x + 1) (by omega) (by omega), w64e (x := y + 1) (by omega) (by omega)]
 rw [cellAt g hg x (y - 1) (by omega) (by omega) k (by omega), cellAt g hg (x - 1) y (by omega) (by omega) k (by omega), cellAt g hg (x + 1) y (by omega) (by omega) k (by omega), cellAt g hg x (y + 1) (by omega) (by omega) k (by omega)]
 simp only [Option.bind_some]
 refine (around_filter g hg _ _ _ _ 4 0 k [] (by omega) (by omega) (by simp)).trans (congrArg some ?_)
 rw [List.nil_append, List.drop_zero]
 obtain ⟨w, hw⟩ : ∃ w, g.f0 = w := ⟨_, rfl⟩
 obtain ⟨h, hh⟩ : ∃ h, g.f1 = h := ⟨_, rfl⟩
 obtain ⟨s, hs⟩ : ∃ s, g.f2 = s := ⟨_, rfl⟩
 rw [hw] at g1 g3 m2 m4
 rw [hh] at g2 g3 hyh
 rw [hs] at g3 g4 hr hc
 unfold aroundL
 rw [hw, hh, hs]
 have neg1 : freeB s (-1) = false := freeB_neg s (by omega)
 have f1 : (if freeB s (if (0 ≤ x ∧ x ≤ w - 1) ∧ (0 ≤ y - 1 ∧ y - 1 ≤ h - 1) then (y - 1) * w + x else -1) = true then [if (0 ≤ x ∧ x ≤ w - 1) ∧ (0 ≤ y - 1 ∧ y - 1 ≤ h - 1) then (y - 1) * w + x else -1] else ([] : List Int)) = if freeB s (c - w) = true then [c - w] else [] := by
  by_cases h1 : 1 ≤ y
  ·rw [if_pos (show (0 ≤ x ∧ x ≤ w - 1) ∧ (0 ≤ y - 1 ∧ y - 1 ≤ h - 1) by omega), show (y - 1) * w + x = c - w by rw [Int.sub_mul]; omega]
  ·rw [if_neg (show ¬ ((0 ≤ x ∧ x ≤ w - 1) ∧ (0 ≤ y - 1 ∧ y - 1 ≤ h - 1)) by omega), neg1, freeB_neg s (by have h0 : y = 0 := (by omega); rw [h0] at m4; omega)]
   simp
 have f2 : (if freeB s (if (0 ≤ x - 1 ∧ x - 1 ≤ w - 1) ∧ (0 ≤ y ∧ y ≤ h - 1) then y * w + (x - 1) else -1) = true then [if (0 ≤ x - 1 ∧ x - 1 ≤ w - 1) ∧ (0 ≤ y ∧ y ≤ h - 1) then y * w + (x - 1) else -1] else ([] : List Int)) = if 0 < x ∧ freeB s (c - 1) = true then [c - 1] else [] := by
  by_cases h1 : 1 ≤ x
  ·rw [if_pos (show (0 ≤ x - 1 ∧ x - 1 ≤ w - 1) ∧ (0 ≤ y ∧ y ≤ h - 1) by omega), show y * w + (x - 1) = c - 1 by omega]
   cases freeB s (c - 1)
   ·simp
   ·rw [if_pos rfl, if_pos ⟨by omega, rfl⟩]
  ·rw [if_neg (show ¬ ((0 ≤ x - 1 ∧ x - 1 ≤ w - 1) ∧ (0 ≤ y ∧ y ≤ h - 1)) by omega), neg1, if_neg (by simp), if_neg (by omega)]
 have f3 : (if freeB s (if (0 ≤ x + 1 ∧ x + 1 ≤ w - 1) ∧ (0 ≤ y ∧ y ≤ h - 1) then y * w + (x + 1) else -1) = true then [if (0 ≤ x + 1 ∧ x + 1 ≤ w - 1) ∧ (0 ≤ y ∧ y ≤ h - 1) then y * w + (x + 1) else -1] else ([] : List Int)) = if x < w - 1 ∧ freeB s (c + 1) = true then [c + 1] else [] := by
  by_cases h1 : x < w - 1
  ·rw [if_pos (show (0 ≤ x + 1 ∧ x + 1 ≤ w - 1) ∧ (0 ≤ y ∧ y ≤ h - 1) by omega), show y * w + (x + 1) = c + 1 by omega]
   cases freeB s (c + 1)
   ·simp
   ·rw [if_pos rfl, if_pos ⟨by omega, rfl⟩]
  ·rw [if_neg (show ¬ ((0 ≤ x + 1 ∧ x + 1 ≤ w - 1) ∧ (0 ≤ y ∧ y ≤ h - 1)) by omega), neg1, if_neg (by simp), if_neg (by omega)]
 have f4 : (if freeB s (if (0 ≤ x ∧ x ≤ w - 1) ∧ (0 ≤ y + 1 ∧ y + 1 ≤ h - 1) then (y + 1) * w + x else -1) = true then [if (0 ≤ x ∧ x ≤ w - 1) ∧ (0 ≤ y + 1 ∧ y + 1 ≤ h - 1) then (y + 1) * w + x else -1] else ([] : List Int)) = if freeB s (c + w) = true then [c + w] else [] := by
  by_cases h1 : y + 1 ≤ h - 1
  ·rw [if_pos (show (0 ≤ x ∧ x ≤ w - 1) ∧ (0 ≤ y + 1 ∧ y + 1 ≤ h - 1) by omega), show (y + 1) * w + x = c + w by rw [Int.add_mul]; omega]
  ·have hn : freeB s (c + w) = false := by
    cases hf : freeB s (c + w)
    ·rfl
    ·have h5 := (freeB_rng hf).2
     have : y = h - 1 := by omega
     rw [this, Int.sub_mul] at m4
     have e : w * h = h * w := Int.mul_comm w h
     omega
   rw [if_neg (show ¬ ((0 ≤ x ∧ x ≤ w - 1) ∧ (0 ≤ y + 1 ∧ y + 1 ≤ h - 1)) by omega), neg1, hn]
   simp
 rw [hw] at hx
 rw [filter4, f1, f2, f3, f4, hx]
set_option maxHeartbeats 1000000 in
theorem implAround0 (g : S24) (hg : gridB g = true) (c : Int) : impl_around.f g c = some (aroundF g c) := by
 obtain ⟨g1, g2, g3⟩ := gridB_iff hg
 have g4 := gridB_size hg
 unfold aroundF impl_around.f
 simp only [implFree, Option.bind_some]
 cases hc : freeB g.f2 c
 ·rfl
 have hr := freeB_rng hc
 unfold aroundL
 rw [w64e (x := c - g.f0) (by omega) (by omega), w64e (x := c - 1) (by omega) (by omega), w64e (x := c + 1) (by omega) (by omega), w64e (x := c + g.f0) (by omega) (by omega), w64e (x := g.f0 - 1) (by omega) (by omega)]
 have h0 : g.f0 ≠ 0 := by omega
 simp only [if_true, h0, ne_eq, not_false_eq_true]
 by_cases h1 : 0 < Int.tmod c g.f0 <;> by_cases h2 : Int.tmod c g.f0 < g.f0 - 1 <;> cases freeB g.f2 (c - g.f0) <;> cases freeB g.f2 (c - 1) <;> cases freeB g.f2 (c + 1) <;> cases freeB g.f2 (c + g.f0) <;> simp [h1, h2]
theorem implAround (g : S24) (hg : gridB g = true) (c : Int) (k : Nat) (hk : 1200000 ≤ k) : impl_Around.f k g c = some (aroundF g c) := by
 have g4 := gridB_size hg
 unfold impl_Around.f
 rw [implGrid g (by omega) k (by omega), hg, implAround0 g hg c]
 rfl
theorem specBeside (g : S24) (hg : gridB g = true) (a b : Int) (k : Nat) (hk : 1200000 ≤ k) : spec_Beside.f k g a b = some ((aroundF g a).contains b) := by
 have := aroundF_len g a
 unfold spec_Beside.f
 rw [specAround g hg a k hk, Option.bind_some, specHas _ b (by omega) k (by omega)]
 rfl
theorem implBeside (g : S24) (hg : gridB g = true) (a b : Int) (k : Nat) (hk : 1200000 ≤ k) : impl_Beside.f k g a b = some ((aroundF g a).contains b) := by
 have := aroundF_len g a
 unfold impl_Beside.f
 rw [implAround g hg a k hk, Option.bind_some, implHas _ b (by omega) k (by omega)]
 rfl
end Go.Proofs.YtfhjipfkaemapaaGreat.Pu