/- Plain laws about what the functions compute: searches, grids, windows, the cells around a cell. -/
import Derived.Test.YtfhjipfkaemapaaGreatV4
namespace Go.Proofs.YtfhjipfkaemapaaGreat.Pu
open Go Go.Av Go.Proofs Go.Proofs.YtfhjipfkaemapaaGreat.V
set_option linter.unusedVariables false
set_option linter.unusedSimpArgs false
theorem w64e {x : Int} (h1 : -9223372036854775808 ≤ x) (h2 : x ≤ 9223372036854775807) : w64 x = x := by
 unfold w64 IntKind.wrap
 simp [IntKind.signed, IntKind.bits]
 omega
theorem wn {i : Nat} (h : i < 4611686018427387904) : w64 ((i : Int) + 1) = ((i + 1 : Nat) : Int) := by rw [w64e (by omega) (by omega)]; rfl
theorem ks {k d : Nat} (h : d < k) : ∃ m, k = m + 1 := ⟨k - 1, by omega⟩
theorem rdn {α : Type} (d : α) (xs : List α) (i : Nat) (h : i < xs.length) : rdD d xs (i : Int) = xs[i] := by simp [rdD, List.getD, h]
def fidx {α : Type} (q : α → Bool) : List α → Nat → Int
 | [], _ => -1
 | x :: r, i => if q x = true then (i : Int) else fidx q r (i + 1)
theorem fidx_any {α : Type} (q : α → Bool) : ∀ (l : List α) (i : Nat), decide (0 ≤ fidx q l i) = l.any q
 | [], i => rfl
 | x :: r, i => by
   rw [fidx, List.any_cons]
   cases hq : q x
   ·simp only [Bool.false_eq_true, if_false, Bool.false_or]; exact fidx_any q r (i + 1)
   ·simp
theorem fidx_spec {α : Type} (q : α → Bool) : ∀ (l : List α) (i : Nat), (fidx q l i = -1 ∧ ∀ x ∈ l, q x = false) ∨ ∃ j, ∃ h : j < l.length, fidx q l i = ((i + j : Nat) : Int) ∧ q l[j] = true ∧ ∀ (m : Nat) (hm : m < l.length), m < j → q l[m] = false
 | [], i => .inl ⟨rfl, by simp⟩
 | x :: r, i => by
   rw [fidx]
   cases hq : q x
   ·rw [if_neg (by simp)]
    rcases fidx_spec q r (i + 1) with ⟨h1, h2⟩ | ⟨j, hj, h1, h2, h3⟩
    ·exact .inl ⟨h1, fun y hy => by rcases List.mem_cons.1 hy with rfl | hy; exact hq; exact h2 y hy⟩
    ·refine .inr ⟨j + 1, by simp; omega, by rw [h1]; congr 1; omega, h2, fun m hm hmj => ?_⟩
     cases m with
     | zero => exact hq
     | succ m => exact h3 m (by simpa using hm) (by omega)
   ·rw [if_pos rfl]
    exact .inr ⟨0, by simp, by simp, hq, fun m hm h => by omega⟩
theorem index_gen {α : Type} (z : α) (L : Nat → List α → (α → Option Bool) → Int → Option Int)
  (hL : ∀ kq a p v, L (kq + 1) a p v = if v < (a.length : Int) then (if 0 ≤ v then ((p (rdD z a v)).bind fun t => if t = true then some v else L kq a p (w64 (v + 1))) else none) else some (-1))
  (a : List α) (p : α → Option Bool) (q : α → Bool) (hq : ∀ x ∈ a, p x = some (q x)) (ha : a.length ≤ 16777216) (k : Nat) (hk : a.length < k) : L k a p 0 = some (fidx q a 0) := by
 have go : ∀ (d i k : Nat), i + d = a.length → d < k → L k a p (i : Int) = some (fidx q (a.drop i) i) := by
  intro d
  induction d with
  | zero =>
    intro i k hi hk
    obtain ⟨k, rfl⟩ := ks hk
    rw [hL, if_neg (by omega), List.drop_eq_nil_of_le (by omega)]
    rfl
  | succ d ih =>
    intro i k hi hk
    obtain ⟨k, rfl⟩ := ks hk
    have hil : i < a.length := by omega
    rw [hL, if_pos (by omega), if_pos (by omega), rdn z a i hil, hq _ (List.getElem_mem hil), Option.bind_some, wn (by omega), ih (i + 1) k (by omega) (by omega), List.drop_eq_getElem_cons hil, fidx]
    cases q a[i] <;> rfl
 have := go a.length 0 k (by omega) hk
 rwa [List.drop_zero] at this
theorem all_gen (n : Nat) (hn : n ≤ 16777216) (L : Nat → Int → Option Bool) (c : Nat → Bool) (C : Nat) (fin : Bool)
  (h1 : ∀ kq i, i < n → C ≤ kq → L (kq + 1) (i : Int) = if c i = true then L kq (w64 ((i : Int) + 1)) else some false) (h2 : ∀ kq, C ≤ kq → L (kq + 1) (n : Int) = some fin) :
  ∀ d i k, i + d = n → C + d < k → L k (i : Int) = some ((List.range' i d).all c && fin) := by
 intro d
 induction d with
 | zero =>
   intro i k hi hk
   obtain ⟨k, rfl⟩ := ks hk
   obtain rfl : i = n := by omega
   rw [h2 k (by omega)]
   rfl
 | succ d ih =>
   intro i k hi hk
   obtain ⟨k, rfl⟩ := ks hk
   rw [h1 k i (by omega) (by omega), wn (by omega), ih (i + 1) k (by omega) (by omega), List.range'_succ, List.all_cons]
   cases c i <;> rfl
theorem range_all {α : Type} (l : List α) (q : α → Bool) (c : Nat → Bool) (h : ∀ i (hi : i < l.length), c i = q l[i]) : (List.range' 0 l.length).all c = l.all q := by
 rw [Bool.eq_iff_iff, List.all_eq_true, List.all_eq_true]
 constructor
 ·intro h1 x hx
  obtain ⟨i, hi, rfl⟩ := List.getElem_of_mem hx
  rw [← h i hi]
  exact h1 i (by simp [List.mem_range'_1]; omega)
 ·intro h1 i hi
  simp [List.mem_range'_1] at hi
  rw [h i hi]
  exact h1 _ (List.getElem_mem hi)
theorem l01In_eq (a b c : Int) : spec_l01In.f a b c = some (decide (b ≤ a ∧ a ≤ c)) := by
 unfold spec_l01In.f
 by_cases h : b ≤ a
 ·rw [if_pos h]; simp [h]
 ·rw [if_neg h]; simp [h]
def kindB (c : Int) : Bool := decide (c = 46 ∨ c = 35 ∨ (97 ≤ c ∧ c ≤ 102) ∨ (65 ≤ c ∧ c ≤ 70))
def cellsB (s : ByteArray) : Bool := (List.range' 0 s.size).all fun i => kindB (bt s (i : Nat))
def gridB (g : S24) : Bool := decide (((1 ≤ g.f0 ∧ g.f0 ≤ 8) ∧ (1 ≤ g.f1 ∧ g.f1 ≤ 8)) ∧ (g.f2.size : Int) = g.f0 * g.f1) && cellsB g.f2
def freeB (s : ByteArray) (c : Int) : Bool := decide (0 ≤ c ∧ c < s.size) && !decide (bt s c = 35)
theorem mul_rng {w h : Int} (h1 : 1 ≤ w ∧ w ≤ 8) (h2 : 1 ≤ h ∧ h ≤ 8) : 1 ≤ w * h ∧ w * h ≤ 64 := by
 obtain ⟨a, b⟩ := h1
 obtain ⟨c, d⟩ := h2
 constructor
 ·exact Int.le_trans (by omega : (1 : Int) ≤ 1 * 1) (Int.mul_le_mul a c (by omega) (by omega))
 ·exact Int.mul_le_mul b d (by omega) (by omega)
theorem gridB_iff {g : S24} (hg : gridB g = true) : (1 ≤ g.f0 ∧ g.f0 ≤ 8) ∧ (1 ≤ g.f1 ∧ g.f1 ≤ 8) ∧ (g.f2.size : Int) = g.f0 * g.f1 := by
 unfold gridB at hg
 rw [Bool.and_eq_true] at hg
 have := of_decide_eq_true hg.1
 exact ⟨this.1.1, this.1.2, this.2⟩
theorem gridB_size {g : S24} (hg : gridB g = true) : 1 ≤ g.f2.size ∧ g.f2.size ≤ 64 := by
 obtain ⟨h1, h2, h3⟩ := gridB_iff hg
 have := mul_rng h1 h2
 omega
theorem l02Kind_eq (c : Int) : spec_l02Kind.f c = some (kindB c) := by
 unfold spec_l02Kind.f kindB
 repeat' split
 all_goals first | exact congrArg some (decide_eq_decide.2 (by omega)) | (rw [decide_eq_true (by omega)]; done) | (rw [decide_eq_false (by omega)]; done)
theorem specGrid (g : S24) (hb : g.f2.size ≤ 1048576) (k : Nat) (hk : 1100000 ≤ k) : spec_GridOk.f k g = some (gridB g) := by
 have hl := all_gen g.f2.size (by omega) (fun k v => spec_GridOk.l0 k g v) (fun i => kindB (bt g.f2 (i : Nat))) 0 true
  (fun kq i hi _ => by show spec_GridOk.l0 (kq + 1) g _ = _; rw [spec_GridOk.l0, if_pos (by omega), if_pos (by omega), l02Kind_eq, Option.bind_some])
  (fun kq _ => by show spec_GridOk.l0 (kq + 1) g _ = _; rw [spec_GridOk.l0, if_neg (by omega)]) g.f2.size 0 k (by omega) (by omega)
 rw [Bool.and_true] at hl
 replace hl : spec_GridOk.l0 k g 0 = some (cellsB g.f2) := hl
 unfold spec_GridOk.f gridB
 simp only [l01In_eq, Option.bind_some, decide_eq_true_eq]
 by_cases h1 : 1 ≤ g.f0 ∧ g.f0 ≤ 8
 ·rw [if_pos h1]
  by_cases h2 : 1 ≤ g.f1 ∧ g.f1 ≤ 8
  ·have := mul_rng h1 h2
   rw [if_pos h2, w64e (by omega) (by omega)]
   by_cases h3 : (g.f2.size : Int) = g.f0 * g.f1
   ·rw [if_pos h3, hl, decide_eq_true ⟨⟨h1, h2⟩, h3⟩, Bool.true_and]
   ·rw [if_neg h3, decide_eq_false (fun h => h3 h.2), Bool.false_and]
  ·rw [if_neg h2, decide_eq_false (fun h => h2 h.1.2), Bool.false_and]
 ·rw [if_neg h1, decide_eq_false (fun h => h1 h.1.1), Bool.false_and]
theorem implGrid (g : S24) (hb : g.f2.size ≤ 1048576) (k : Nat) (hk : 1100000 ≤ k) : impl_GridOk.f k g = some (gridB g) := by
 have hl := all_gen g.f2.size (by omega) (fun k v => impl_GridOk.l0 k g v) (fun i => kindB (bt g.f2 (i : Nat))) 0 true
  (fun kq i hi _ => by
    show impl_GridOk.l0 (kq + 1) g _ = _
    rw [impl_GridOk.l0, if_pos (by omega), if_pos (by omega)]
    unfold kindB
    generalize bt g.f2 (i : Int) = c
    repeat' split
    all_goals first | rfl | (exfalso; simp only [decide_eq_true_eq] at *; omega))
  (fun kq _ => by show impl_GridOk.l0 (kq + 1) g _ = _; rw [impl_GridOk.l0, if_neg (by omega)]) g.f2.size 0 k (by omega) (by omega)
 rw [Bool.and_true] at hl
 replace hl : impl_GridOk.l0 k g 0 = some (cellsB g.f2) := hl
 unfold impl_GridOk.f gridB
 by_cases h1 : 1 ≤ g.f0 ∧ g.f0 ≤ 8
 ·rw [if_neg (by omega), if_neg (by omega)]
  by_cases h2 : 1 ≤ g.f1 ∧ g.f1 ≤ 8
  ·have := mul_rng h1 h2
   rw [if_neg (by omega), if_neg (by omega), w64e (by omega) (by omega)]
   by_cases h3 : (g.f2.size : Int) = g.f0 * g.f1
   ·rw [if_pos h3, hl, decide_eq_true ⟨⟨h1, h2⟩, h3⟩, Bool.true_and]
   ·rw [if_neg h3, decide_eq_false (fun h => h3 h.2), Bool.false_and]
  ·rw [decide_eq_false (fun h => h2 h.1.2), Bool.false_and]
   by_cases h3 : g.f1 < 1
   ·rw [if_pos h3]
   ·rw [if_neg h3, if_pos (by omega)]
 ·rw [decide_eq_false (fun h => h1 h.1.1), Bool.false_and]
  by_cases h3 : g.f0 < 1
  ·rw [if_pos h3]
  ·rw [if_neg h3, if_pos (by omega)]
theorem specFree (g : S24) (c : Int) (hb : g.f2.size ≤ 1048576) (k : Nat) (hk : 1100000 ≤ k) : spec_FreeAt.f k g c = some (gridB g && freeB g.f2 c) := by
 unfold spec_FreeAt.f freeB
 rw [specGrid g hb k hk, Option.bind_some]
 cases gridB g
 ·simp
 ·by_cases h1 : 0 ≤ c
  ·by_cases h2 : c < (g.f2.size : Int)
   ·simp [h1, h2]
   ·simp [h1, h2]
  ·simp [h1]
theorem implFree (g : S24) (c : Int) : impl_isFree.f g c = some (freeB g.f2 c) := by
 unfold impl_isFree.f freeB
 by_cases h1 : 0 ≤ c
 ·by_cases h2 : c < (g.f2.size : Int)
  ·simp [h1, h2]
  ·simp [h1, h2]
 ·simp [h1]
theorem freeB_rng {s : ByteArray} {c : Int} (h : freeB s c = true) : 0 ≤ c ∧ c < s.size := by
 unfold freeB at h
 rw [Bool.and_eq_true] at h
 exact of_decide_eq_true h.1
theorem freeB_neg (s : ByteArray) {c : Int} (h : c < 0) : freeB s c = false := by
 cases hf : freeB s c
 ·rfl
 ·have := (freeB_rng hf).1; omega
theorem windowNew_eq (a b : Int) : ∃ w, spec_WindowNew.f a b = some w ∧ impl_WindowNew.f a b = some w := by
 unfold spec_WindowNew.f impl_WindowNew.f
 simp only [l01In_eq, Option.bind_some, decide_eq_true_eq]
 by_cases h1 : 1 ≤ a ∧ a ≤ 8
 ·rw [if_pos h1, if_neg (show ¬ a < 1 by omega), if_neg (show ¬ 8 < a by omega)]
  by_cases h2 : 1 ≤ b ∧ b ≤ 100
  ·rw [if_pos h2, if_neg (show ¬ b < 1 by omega), if_neg (show ¬ 100 < b by omega), w64e (by omega) (by omega), if_pos (by omega), if_pos (by omega)]
   exact ⟨_, rfl, rfl⟩
  ·rw [if_neg h2]
   refine ⟨_, rfl, ?_⟩
   by_cases h3 : b < 1
   ·rw [if_pos h3]
   ·rw [if_neg h3, if_pos (by omega)]
 ·rw [if_neg h1]
  refine ⟨_, rfl, ?_⟩
  by_cases h3 : a < 1
  ·rw [if_pos h3]
  ·rw [if_neg h3, if_pos (by omega)]
theorem setup_eq (s : S26) (hb : s.f0.f2.size ≤ 1048576) (k : Nat) (hk : 1100000 ≤ k) : ∃ b, spec_SetupOk.f k s = some b ∧ impl_SetupOk.f k s = some b ∧ (b = true → gridB s.f0 = true) := by
 obtain ⟨w, h1, h2⟩ := windowNew_eq s.f2 s.f3
 unfold spec_SetupOk.f impl_SetupOk.f
 rw [h1, h2, specGrid _ hb k hk, implGrid _ hb k hk]
 simp only [Option.bind_some, l01In_eq, decide_eq_true_eq]
 cases hg : gridB s.f0
 ·exact ⟨false, rfl, rfl, fun h => by cases h⟩
 ·rw [if_pos rfl, if_pos rfl]
  by_cases h3 : 1 ≤ s.f1 ∧ s.f1 ≤ 20
  ·rw [if_pos h3, if_pos h3.1, if_pos h3.2]
   cases w.2
   ·exact ⟨false, rfl, rfl, fun _ => rfl⟩
   ·rw [if_pos rfl, if_pos rfl]
    refine ⟨_, rfl, ?_, fun _ => rfl⟩
    by_cases h4 : 0 ≤ s.f4
    ·rw [if_pos h4]; simp [h4]
    ·rw [if_neg h4]; simp [h4]
  ·rw [if_neg h3]
   refine ⟨false, rfl, ?_, fun _ => rfl⟩
   by_cases h4 : 1 ≤ s.f1
   ·rw [if_pos h4, if_neg (by omega)]
   ·rw [if_neg h4]
theorem contains3 (xs : List Int) (p : Int → Option Bool) (q : Int → Bool) (hq : ∀ x ∈ xs, p x = some (q x)) (ha : xs.length ≤ 16777216) (k : Nat) (hk : xs.length < k) : slices_ContainsFunc_int_int_3.f k xs p = some (xs.any q) := by
 unfold slices_ContainsFunc_int_int_3.f slices_IndexFunc_int_int_3.f
 rw [index_gen 0 slices_IndexFunc_int_int_3.l0 (fun _ _ _ _ => rfl) xs p q hq ha k hk, Option.bind_some, fidx_any]
theorem contains1 (xs : List Int) (p : Int → Option Bool) (q : Int → Bool) (hq : ∀ x ∈ xs, p x = some (q x)) (ha : xs.length ≤ 16777216) (k : Nat) (hk : xs.length < k) : slices_ContainsFunc_int_int_1.f k xs p = some (xs.any q) := by
 unfold slices_ContainsFunc_int_int_1.f slices_IndexFunc_int_int_1.f
 rw [index_gen 0 slices_IndexFunc_int_int_1.l0 (fun _ _ _ _ => rfl) xs p q hq ha k hk, Option.bind_some, fidx_any]
theorem window_eq (w : S29) (hb : w.f2.length ≤ 1048576) (k : Nat) (hk : 1100000 ≤ k) : ∃ b, spec_WindowOk.f k w = some b ∧ impl_WindowOk.f k w = some b := by
 have hl := all_gen w.f2.length (by omega) (fun k v => spec_WindowOk.l0 k w v) (fun i => decide (0 ≤ rdD 0 w.f2 (i : Nat) ∧ rdD 0 w.f2 (i : Nat) ≤ w.f1)) 0 true
  (fun kq i hi _ => by show spec_WindowOk.l0 (kq + 1) w _ = _; rw [spec_WindowOk.l0, if_pos (by omega), if_pos (by omega), l01In_eq, Option.bind_some])
  (fun kq _ => by show spec_WindowOk.l0 (kq + 1) w _ = _; rw [spec_WindowOk.l0, if_neg (by omega)]) w.f2.length 0 k (by omega) (by omega)
 rw [Bool.and_true] at hl
 rw [range_all w.f2 (fun x => decide (0 ≤ x ∧ x ≤ w.f1)) _ (fun i hi => by rw [rdn 0 w.f2 i hi])] at hl
 replace hl : spec_WindowOk.l0 k w 0 = some (w.f2.all fun x => decide (0 ≤ x ∧ x ≤ w.f1)) := hl
 have hc := contains3 w.f2 (fun x => impl_WindowOk_1.f x w) (fun x => !decide (0 ≤ x ∧ x ≤ w.f1)) (fun x _ => by
  unfold impl_WindowOk_1.f
  by_cases h1 : x < 0
  ·rw [if_pos h1, decide_eq_false (by omega)]; rfl
  ·rw [if_neg h1]
   by_cases h2 : w.f1 < x
   ·rw [decide_eq_true h2, decide_eq_false (by omega)]; rfl
   ·rw [decide_eq_false h2, decide_eq_true (by omega)]; rfl) (by omega) k (by omega)
 have hn : (!(w.f2.any fun x => !decide (0 ≤ x ∧ x ≤ w.f1))) = w.f2.all fun x => decide (0 ≤ x ∧ x ≤ w.f1) := by
  rw [List.not_any_eq_all_not]
  simp
 unfold spec_WindowOk.f impl_WindowOk.f
 simp only [l01In_eq, Option.bind_some, decide_eq_true_eq]
 by_cases h1 : 1 ≤ w.f0 ∧ w.f0 ≤ 8
 ·rw [if_pos h1, if_neg (show ¬ w.f0 < 1 by omega), if_neg (show ¬ 8 < w.f0 by omega)]
  by_cases h2 : 1 ≤ w.f1 ∧ w.f1 ≤ 100
  ·rw [if_pos h2, if_neg (show ¬ w.f1 < 1 by omega), if_neg (show ¬ 100 < w.f1 by omega)]
   by_cases h3 : (w.f2.length : Int) = w64 (w.f0 * 6)
   ·rw [if_pos h3, if_pos h3, hl, hc, Option.bind_some, hn]
    exact ⟨_, rfl, rfl⟩
   ·rw [if_neg h3, if_neg h3]
    exact ⟨_, rfl, rfl⟩
  ·rw [if_neg h2]
   refine ⟨_, rfl, ?_⟩
   by_cases h3 : w.f1 < 1
   ·rw [if_pos h3]
   ·rw [if_neg h3, if_pos (by omega)]
 ·rw [if_neg h1]
  refine ⟨_, rfl, ?_⟩
  by_cases h3 : w.f0 < 1
  ·rw [if_pos h3]
  ·rw [if_neg h3, if_pos (by omega)]
end Go.Proofs.YtfhjipfkaemapaaGreat.Pu