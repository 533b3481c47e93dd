/- Plain laws about what the functions compute: sorted lists without equals. -/
import Derived.Test.YtfhjipfkaemapaaGreatPuA
namespace Go.Proofs.YtfhjipfkaemapaaGreat.Pu
open Go Go.Av Go.Proofs Go.Proofs.YtfhjipfkaemapaaGreat.V
set_option linter.unusedVariables false
set_option linter.unusedSimpArgs false
theorem asc_ext : ∀ {a b : List Int}, a.Pairwise (· < ·) → b.Pairwise (· < ·) → (∀ x, x ∈ a ↔ x ∈ b) → a = b
 | [], [], _, _, _ => rfl
 | [], y :: b, _, _, h => absurd ((h y).2 (by simp)) (by simp)
 | x :: a, [], _, _, h => absurd ((h x).1 (by simp)) (by simp)
 | x :: a, y :: b, ha, hb, h => by
   rw [List.pairwise_cons] at ha hb
   have hxy : x = y := by
    rcases List.mem_cons.1 ((h x).1 (by simp)) with e | h1
    ·exact e
    ·rcases List.mem_cons.1 ((h y).2 (by simp)) with e | h2
     ·exact e.symm
     ·have := hb.1 x h1; have := ha.1 y h2; omega
   subst hxy
   have := asc_ext ha.2 hb.2 (fun z => by
    have hz := h z
    simp only [List.mem_cons] at hz
    constructor
    ·intro hm
     rcases hz.1 (.inr hm) with e | h3
     ·have := ha.1 z hm; omega
     ·exact h3
    ·intro hm
     rcases hz.2 (.inr hm) with e | h3
     ·have := hb.1 z hm; omega
     ·exact h3)
   rw [this]
theorem comp_inv (d : Array Int) (hs : ∀ i j, i ≤ j → j < d.size → d[i]! ≤ d[j]!) : ∀ m, m ≤ d.size →
  (Lib.compactUpTo d m).Pairwise (· < ·) ∧ (∀ x, x ∈ Lib.compactUpTo d m ↔ ∃ j, j < m ∧ d[j]! = x) := by
 intro m
 induction m with
 | zero => intro _; exact ⟨by simp [Lib.compactUpTo], fun x => by simp [Lib.compactUpTo]⟩
 | succ m ih =>
   intro hm
   obtain ⟨h1, h2⟩ := ih (by omega)
   rw [Lib.compactUpTo_succ]
   by_cases hk : Lib.keeps d m = true
   ·rw [if_pos hk]
    have hk' : m = 0 ∨ d[m]! ≠ d[m - 1]! := by simpa [Lib.keeps] using hk
    refine ⟨List.pairwise_append.2 ⟨h1, by simp, fun x hx y hy => ?_⟩, fun x => ?_⟩
    ·rw [List.mem_singleton] at hy
     subst hy
     obtain ⟨j, hj, rfl⟩ := (h2 x).1 hx
     have a1 := hs j (m - 1) (by omega) (by omega)
     have a2 := hs (m - 1) m (by omega) (by omega)
     rcases hk' with e | e
     ·omega
     ·omega
    ·rw [List.mem_append, List.mem_singleton, h2]
     constructor
     ·rintro (⟨j, hj, e⟩ | rfl)
      ·exact ⟨j, by omega, e⟩
      ·exact ⟨m, by omega, rfl⟩
     ·rintro ⟨j, hj, e⟩
      by_cases hjm : j = m
      ·subst hjm; exact .inr e.symm
      ·exact .inl ⟨j, by omega, e⟩
   ·rw [if_neg hk, List.append_nil]
    have hk' : ¬ (m = 0 ∨ d[m]! ≠ d[m - 1]!) := by simpa [Lib.keeps] using hk
    refine ⟨h1, fun x => ?_⟩
    rw [h2]
    constructor
    ·rintro ⟨j, hj, e⟩; exact ⟨j, by omega, e⟩
    ·rintro ⟨j, hj, e⟩
     by_cases hjm : j = m
     ·subst hjm
      exact ⟨j - 1, by omega, by have : d[j]! = d[j - 1]! := by by_cases h : d[j]! = d[j - 1]!; exact h; exact absurd (Or.inr h) hk'
                                 rw [← this]; exact e⟩
     ·exact ⟨j, by omega, e⟩
theorem compact_sorted (l : List Int) : (Lib.compact (l.mergeSort fun x y => decide (x ≤ y))).Pairwise (· < ·) ∧ ∀ x, x ∈ Lib.compact (l.mergeSort fun x y => decide (x ≤ y)) ↔ x ∈ l := by
 obtain ⟨s, hs⟩ : ∃ s, s = l.mergeSort fun x y => decide (x ≤ y) := ⟨_, rfl⟩
 have hp : s.Pairwise (fun x y => decide (x ≤ y) = true) := by
  rw [hs]
  exact List.pairwise_mergeSort (fun a b c h1 h2 => by simp only [decide_eq_true_eq] at *; omega) (fun a b => by simp only [Bool.or_eq_true, decide_eq_true_eq]; omega) l
 have hm : ∀ x, x ∈ s ↔ x ∈ l := fun x => by rw [hs]; exact (List.mergeSort_perm l _).mem_iff
 rw [← hs]
 have hsz : s.toArray.size = s.length := by simp
 have := comp_inv s.toArray (fun i j hij hj => by
  have hj' : j < s.length := by simpa using hj
  by_cases e : i = j
  ·subst e; exact Int.le_refl _
  ·have h3 := List.pairwise_iff_getElem.1 hp i j (by omega) hj' (by omega)
   simp only [decide_eq_true_eq] at h3
   simpa [List.getElem!_toArray, getElem!_pos, show i < s.length by omega, hj'] using h3) s.length (by simp)
 unfold Lib.compact
 refine ⟨this.1, fun x => ?_⟩
 rw [this.2, ← hm]
 constructor
 ·rintro ⟨j, hj, rfl⟩
  simp [hj]
 ·intro hx
  obtain ⟨j, hj, rfl⟩ := List.mem_iff_getElem.1 hx
  exact ⟨j, hj, by simp [hj]⟩
def pushL (out : List Int) (x : Int) : List Int := if out.getLast? = some x then out else out ++ [x]
theorem push_eq {β : Type} (G : List Int → Option β) (out : List Int) (x : Int) (hb : out.length ≤ 67108864) :
  (if (out.length : Int) = 0 then (if (out.length + 1) * 8 ≤ 140737488355328 then G (out ++ [x]) else none) else (if 0 ≤ (w64 ((out.length : Int) - 1)) then (if (w64 ((out.length : Int) - 1)) < (out.length : Int) then (if (rdD 0 out (w64 ((out.length : Int) - 1))) = x then G out else (if (out.length + 1) * 8 ≤ 140737488355328 then G (out ++ [x]) else none)) else none) else none)) = G (pushL out x) := by
 by_cases h : out.length = 0
 ·have e : out = [] := List.length_eq_zero_iff.1 h
  subst e
  simp [pushL]
 ·have e1 : w64 ((out.length : Int) - 1) = ((out.length - 1 : Nat) : Int) := by rw [w64e (by omega) (by omega)]; omega
  rw [if_neg (by omega), e1, if_pos (by omega), if_pos (by omega), rdn 0 out (out.length - 1) (by omega)]
  have e2 : out.getLast? = some (out[out.length - 1]'(by omega)) := by rw [List.getLast?_eq_getElem?, List.getElem?_eq_getElem (by omega)]
  unfold pushL
  rw [e2]
  by_cases h2 : out[out.length - 1]'(by omega) = x
  ·rw [if_pos h2, if_pos (by rw [h2])]
  ·rw [if_neg h2, if_pos (by omega), if_neg (by simpa using h2)]
theorem push_mem (out : List Int) (x y : Int) : y ∈ pushL out x ↔ y ∈ out ∨ y = x := by
 unfold pushL
 split
 ·next h =>
  have := List.mem_of_getLast? h
  constructor
  ·exact .inl
  ·rintro (h1 | rfl)
   ·exact h1
   ·exact this
 ·simp
theorem push_asc (out : List Int) (x : Int) (ha : out.Pairwise (· < ·)) (hl : ∀ y ∈ out, y ≤ x) : (pushL out x).Pairwise (· < ·) := by
 unfold pushL
 split
 ·exact ha
 ·next h =>
  refine List.pairwise_append.2 ⟨ha, by simp, fun y hy z hz => ?_⟩
  rw [List.mem_singleton] at hz
  subst hz
  have h1 := hl y hy
  by_cases e : y = z
  ·subst e
   exfalso
   obtain ⟨i, hi, rfl⟩ := List.mem_iff_getElem.1 hy
   apply h
   rw [List.getLast?_eq_getElem?, List.getElem?_eq_getElem (by omega)]
   by_cases e2 : i = out.length - 1
   ·subst e2; rfl
   ·have h3 := List.pairwise_iff_getElem.1 ha i (out.length - 1) hi (by omega) (by omega)
    have h4 := hl _ (List.getElem_mem (show out.length - 1 < out.length by omega))
    omega
  ·omega
theorem push_len (out : List Int) (x : Int) : (pushL out x).length ≤ out.length + 1 := by
 unfold pushL
 split <;> simp
theorem merge_l (a b : List Int) (ha : a.Pairwise (· < ·)) (hb : b.Pairwise (· < ·)) (la : a.length ≤ 16777216) (lb : b.length ≤ 16777216) : ∀ (n i j k : Nat) (out : List Int), i ≤ a.length → j ≤ b.length → (a.length - i) + (b.length - j) = n → 3 * n + 3 ≤ k → out.length ≤ i + j →
  out.Pairwise (· < ·) → (∀ x ∈ out, (∀ y ∈ a.drop i, x ≤ y) ∧ (∀ y ∈ b.drop j, x ≤ y)) →
  ∃ r, spec_l11Sorted.l0 k a b out (i : Int) (j : Int) = some r ∧ r.Pairwise (· < ·) ∧ r.length ≤ out.length + n ∧ ∀ x, x ∈ r ↔ x ∈ out ∨ x ∈ a.drop i ∨ x ∈ b.drop j := by
 intro n
 induction n with
 | zero =>
   intro i j k out hi hj hn hk hl ho hx
   obtain ⟨k, rfl⟩ := ks (show 0 < k by omega)
   rw [spec_l11Sorted.l0, if_neg (by omega), if_neg (by omega)]
   refine ⟨out, rfl, ho, by omega, fun x => ?_⟩
   rw [List.drop_eq_nil_of_le (by omega), List.drop_eq_nil_of_le (by omega)]
   simp
 | succ n ih =>
   intro i j k out hi hj hn hk hl ho hx
   obtain ⟨k, rfl⟩ := ks (show 0 < k by omega)
   have takeA : ∀ (h : i < a.length), (∀ y ∈ b.drop j, a[i] ≤ y) → ∃ r, spec_l11Sorted.l0 k a b (pushL out a[i]) ((i + 1 : Nat) : Int) (j : Int) = some r ∧ r.Pairwise (· < ·) ∧ r.length ≤ out.length + (n + 1) ∧ ∀ x, x ∈ r ↔ x ∈ out ∨ x ∈ a.drop i ∨ x ∈ b.drop j := by
    intro h hle
    have hd := List.drop_eq_getElem_cons h
    have hpa := ha.drop (i := i)
    rw [hd, List.pairwise_cons] at hpa
    obtain ⟨r, h1, h2, hL, h3⟩ := ih (i + 1) j k (pushL out a[i]) (by omega) hj (by omega) (by omega) (by have := push_len out a[i]; omega)
     (push_asc out _ ho (fun y hy => (hx y hy).1 _ (by rw [hd]; exact List.mem_cons_self)))
     (fun x hxm => by
       rcases (push_mem out _ x).1 hxm with h4 | rfl
       ·exact ⟨fun y hy => (hx x h4).1 y (by rw [hd]; exact List.mem_cons_of_mem _ hy), (hx x h4).2⟩
       ·exact ⟨fun y hy => by have := hpa.1 y hy; omega, hle⟩)
    refine ⟨r, h1, h2, by have := push_len out a[i]; omega, fun x => ?_⟩
    rw [h3, push_mem, hd, List.mem_cons]
    constructor
    ·rintro ((h | h) | h | h)
     ·exact .inl h
     ·exact .inr (.inl (.inl h))
     ·exact .inr (.inl (.inr h))
     ·exact .inr (.inr h)
    ·rintro (h | (h | h) | h)
     ·exact .inl (.inl h)
     ·exact .inl (.inr h)
     ·exact .inr (.inl h)
     ·exact .inr (.inr h)
   have takeB : ∀ (h : j < b.length), (∀ y ∈ a.drop i, b[j] ≤ y) → ∃ r, spec_l11Sorted.l0 k a b (pushL out b[j]) (i : Int) ((j + 1 : Nat) : Int) = some r ∧ r.Pairwise (· < ·) ∧ r.length ≤ out.length + (n + 1) ∧ ∀ x, x ∈ r ↔ x ∈ out ∨ x ∈ a.drop i ∨ x ∈ b.drop j := by
    intro h hle
    have hd := List.drop_eq_getElem_cons h
    have hpa := hb.drop (i := j)
    rw [hd, List.pairwise_cons] at hpa
    obtain ⟨r, h1, h2, hL, h3⟩ := ih i (j + 1) k (pushL out b[j]) hi (by omega) (by omega) (by omega) (by have := push_len out b[j]; omega)
     (push_asc out _ ho (fun y hy => (hx y hy).2 _ (by rw [hd]; exact List.mem_cons_self)))
     (fun x hxm => by
       rcases (push_mem out _ x).1 hxm with h4 | rfl
       ·exact ⟨(hx x h4).1, fun y hy => (hx x h4).2 y (by rw [hd]; exact List.mem_cons_of_mem _ hy)⟩
       ·exact ⟨hle, fun y hy => by have := hpa.1 y hy; omega⟩)
    refine ⟨r, h1, h2, by have := push_len out b[j]; omega, fun x => ?_⟩
    rw [h3, push_mem, hd, List.mem_cons]
    constructor
    ·rintro ((h | h) | h | h)
     ·exact .inl h
     ·exact .inr (.inr (.inl h))
     ·exact .inr (.inl h)
     ·exact .inr (.inr (.inr h))
    ·rintro (h | h | (h | h))
     ·exact .inl (.inl h)
     ·exact .inr (.inl h)
     ·exact .inl (.inr h)
     ·exact .inr (.inr h)
   rw [spec_l11Sorted.l0]
   by_cases hia : i < a.length
   ·rw [if_pos (show (i : Int) < (a.length : Int) by omega)]
    by_cases hjb : b.length ≤ j
    ·rw [if_pos (show (b.length : Int) ≤ (j : Int) by omega), if_pos (show (0 : Int) ≤ (i : Int) by omega), rdn 0 a i hia, wn (i := i) (by omega), push_eq (fun o => spec_l11Sorted.l0 k a b o ((i + 1 : Nat) : Int) (j : Int)) out a[i] (by omega)]
     exact takeA hia (fun y hy => by rw [List.drop_eq_nil_of_le hjb] at hy; simp at hy)
    ·rw [if_neg (show ¬ (b.length : Int) ≤ (j : Int) by omega), if_pos (show (0 : Int) ≤ (i : Int) by omega), if_pos (show (0 : Int) ≤ (j : Int) by omega), if_pos (show (j : Int) < (b.length : Int) by omega), rdn 0 a i hia, rdn 0 b j (by omega)]
     have hdA := List.drop_eq_getElem_cons hia
     have hdB := List.drop_eq_getElem_cons (show j < b.length by omega)
     have pA := ha.drop (i := i)
     have pB := hb.drop (i := j)
     rw [hdA, List.pairwise_cons] at pA
     rw [hdB, List.pairwise_cons] at pB
     by_cases hc : a[i] ≤ b[j]'(by omega)
     ·rw [if_pos hc, wn (i := i) (by omega), push_eq (fun o => spec_l11Sorted.l0 k a b o ((i + 1 : Nat) : Int) (j : Int)) out a[i] (by omega)]
      exact takeA hia (fun y hy => by rw [hdB, List.mem_cons] at hy; rcases hy with rfl | hy; exact hc; have := pB.1 y hy; omega)
     ·rw [if_neg hc, wn (i := j) (by omega), push_eq (fun o => spec_l11Sorted.l0 k a b o (i : Int) ((j + 1 : Nat) : Int)) out (b[j]'(by omega)) (by omega)]
      exact takeB (by omega) (fun y hy => by rw [hdA, List.mem_cons] at hy; rcases hy with rfl | hy; omega; have := pA.1 y hy; omega)
   ·rw [if_neg (show ¬ (i : Int) < (a.length : Int) by omega), if_pos (show (j : Int) < (b.length : Int) by omega), if_neg (show ¬ (b.length : Int) ≤ (j : Int) by omega), if_pos (show (0 : Int) ≤ (j : Int) by omega), rdn 0 b j (by omega), wn (i := j) (by omega), push_eq (fun o => spec_l11Sorted.l0 k a b o (i : Int) ((j + 1 : Nat) : Int)) out (b[j]'(by omega)) (by omega)]
    exact takeB (by omega) (fun y hy => by rw [List.drop_eq_nil_of_le (by omega)] at hy; simp at hy)
theorem sorted_ev : ∀ (N : Nat) (l : List Int) (k : Nat), l.length ≤ N → l.length ≤ 16777216 → 4 * N + 10 ≤ k →
  ∃ r, spec_l11Sorted.f k l = some r ∧ r.Pairwise (· < ·) ∧ r.length ≤ l.length ∧ (∀ x, x ∈ r ↔ x ∈ l) := by
 intro N
 induction N with
 | zero =>
   intro l k h hb hk
   obtain ⟨k, rfl⟩ := ks (show 0 < k by omega)
   have e : l = [] := List.length_eq_zero_iff.1 (by omega)
   subst e
   exact ⟨[], by rw [spec_l11Sorted.f, if_pos (by simp)]; rfl, by simp, by simp, by simp⟩
 | succ N ih =>
   intro l k h hb hk
   obtain ⟨k, rfl⟩ := ks (show 0 < k by omega)
   by_cases h2 : (l.length : Int) < 2
   ·refine ⟨l, by rw [spec_l11Sorted.f, if_pos h2]; simp; omega, ?_, Nat.le_refl _, by simp⟩
    match l, h2 with
    | [], _ => simp
    | [x], _ => simp
    | x :: y :: t, h2 => simp at h2; omega
   ·have e1 : w64 ((l.length : Int).tdiv 2) = ((l.length / 2 : Nat) : Int) := by rw [Int.tdiv_eq_ediv_of_nonneg (by omega), w64e (by omega) (by omega)]; omega
    obtain ⟨a, a1, a2, aL, a3⟩ := ih (l.take (l.length / 2)) k (by rw [List.length_take]; omega) (by rw [List.length_take]; omega) (by omega)
    obtain ⟨b, b1, b2, bL, b3⟩ := ih (l.drop (l.length / 2)) k (by rw [List.length_drop]; omega) (by rw [List.length_drop]; omega) (by omega)
    rw [List.length_take] at aL
    rw [List.length_drop] at bL
    obtain ⟨r, r1, r2, rL, r3⟩ := merge_l a b a2 b2 (by omega) (by omega) (a.length + b.length) 0 0 k [] (by omega) (by omega) (by omega) (by omega) (by simp) (by simp) (by simp)
    refine ⟨r, ?_, r2, by simp at rL; omega, fun x => ?_⟩
    ·rw [spec_l11Sorted.f, if_neg h2, e1, if_pos (by omega), if_pos (by omega), Int.toNat_natCast, show ((l.drop (0 : Int).toNat).take (l.length / 2 - (0 : Int).toNat)) = l.take (l.length / 2) by simp, show ((l.drop (l.length / 2)).take ((l.length : Int).toNat - l.length / 2)) = l.drop (l.length / 2) from List.take_of_length_le (by simp), a1, Option.bind_some, b1, Option.bind_some]
     exact r1
    ·rw [r3, List.drop_zero, List.drop_zero, a3, b3]
     constructor
     ·rintro (h | h | h)
      ·simp at h
      ·exact List.mem_of_mem_take h
      ·exact List.mem_of_mem_drop h
     ·intro h
      rw [← List.take_append_drop (l.length / 2) l, List.mem_append] at h
      rcases h with h | h
      ·exact .inr (.inl h)
      ·exact .inr (.inr h)
theorem sorted_same (l : List Int) (hb : l.length ≤ 16777216) (k : Nat) (hk : 4 * l.length + 10 ≤ k) : spec_l11Sorted.f k l = some (Lib.compact (l.mergeSort fun x y => decide (x ≤ y))) := by
 obtain ⟨r, h1, h2, _, h3⟩ := sorted_ev l.length l k (Nat.le_refl _) hb hk
 obtain ⟨h4, h5⟩ := compact_sorted l
 rw [h1, asc_ext h2 h4 (fun x => by rw [h3, h5])]
theorem ordered_same (l : List Int) (hb : l.length ≤ 16777216) : AvOrd.impl_ordered.f l = some (Lib.compact (l.mergeSort fun x y => decide (x ≤ y))) := by
 unfold AvOrd.impl_ordered.f
 rw [if_pos (by omega)]
def sortL (l : List Int) : List Int := Lib.compact (l.mergeSort fun x y => decide (x ≤ y))
theorem sortL_mem (l : List Int) (x : Int) : x ∈ sortL l ↔ x ∈ l := (compact_sorted l).2 x
end Go.Proofs.YtfhjipfkaemapaaGreat.Pu