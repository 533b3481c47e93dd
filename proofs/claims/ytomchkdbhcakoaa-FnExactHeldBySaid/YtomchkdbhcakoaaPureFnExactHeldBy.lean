/- The law FnExactHeldBy over numbers and lists alone: it answers true for every input; no condition beside the bounds of the kinds. -/
import Derived.Test.YtomchkdbhcakoaaMFnExactHeldByx
import Derived.Test.YtomchkdbhcakoaaOpFnExactHeldBy
namespace Go.Proofs.Ytomchkdbhcakoaa.Pure
open Go.RowKit Go.Proofs.Ytomchkdbhcakoaa.MFnExactHeldBy Go.Proofs.YtomchkdbhcakoaaW.PrintWords Go.Proofs.YtomchkdbhcakoaaW.PrintLast Go.Proofs.Ytomchkdbhcakoaa
set_option linter.unusedVariables false
set_option linter.unusedSimpArgs false

theorem w64 {x : Int} (h1 : -9223372036854775808 ≤ x) (h2 : x ≤ 9223372036854775807) : wrap64 x = x := by unfold wrap64; omega
theorem wnat {i : Nat} (h : i < 4611686018427387904) : wrap64 ((i : Int) + 1) = ((i + 1 : Nat) : Int) := by unfold wrap64; omega
theorem ksucc {k d : Nat} (h : d < k) : ∃ m, k = m + 1 := ⟨k - 1, by omega⟩

theorem fill_step {α β : Type} (f : α → β) (z : β) (xs : List α) (i d : Nat) (h : i + (d + 1) = xs.length) (hi : i < xs.length) :
    ((xs.take i).map f ++ List.replicate (d + 1) z).set i (f xs[i]) = (xs.take (i + 1)).map f ++ List.replicate d z := by
  have hl : ((xs.take i).map f).length = i := by simp; omega
  rw [List.replicate_succ, List.set_append_right _ _ (by omega), hl, Nat.sub_self, List.set_cons_zero, List.take_succ_eq_append_getElem hi, List.map_append]
  simp

/-! sorted lists, compacted -/
theorem asc_ext : ∀ {a b : List Int}, a.Pairwise (· < ·) → b.Pairwise (· < ·) → (∀ x, x ∈ a ↔ x ∈ b) → a = b
  | [], [], _, _, _ => rfl
  | [], y :: b, _, _, h => absurd ((h y).2 (by simp)) (by simp)
  | x :: a, [], _, _, h => absurd ((h x).1 (by simp)) (by simp)
  | x :: a, y :: b, ha, hb, h => by
    rw [List.pairwise_cons] at ha hb
    have hxy : x = y := by
      rcases List.mem_cons.1 ((h x).1 (by simp)) with e | h1
      · exact e
      · rcases List.mem_cons.1 ((h y).2 (by simp)) with e | h2
        · exact e.symm
        · have := hb.1 x h1; have := ha.1 y h2; omega
    subst hxy
    have := asc_ext ha.2 hb.2 (fun z => by
      have hz := h z
      simp only [List.mem_cons] at hz
      constructor
      · intro hm
        rcases hz.1 (.inr hm) with e | h3
        · have := ha.1 z hm; omega
        · exact h3
      · intro hm
        rcases hz.2 (.inr hm) with e | h3
        · have := hb.1 z hm; omega
        · exact h3)
    rw [this]
theorem comp_inv (d : Array Int) (hs : ∀ i j, i ≤ j → j < d.size → d[i]! ≤ d[j]!) : ∀ m, m ≤ d.size →
    (Lib.compactUpTo d m).Pairwise (· < ·) ∧ (∀ x, x ∈ Lib.compactUpTo d m ↔ ∃ j, j < m ∧ d[j]! = x) := by
  intro m
  induction m with
  | zero => intro _; exact ⟨by simp [Lib.compactUpTo], fun x => by simp [Lib.compactUpTo]⟩
  | succ m ih =>
    intro hm
    obtain ⟨h1, h2⟩ := ih (by omega)
    rw [Lib.compactUpTo_succ]
    by_cases hk : Lib.keeps d m = true
    · rw [if_pos hk]
      have hk' : m = 0 ∨ d[m]! ≠ d[m - 1]! := by simpa [Lib.keeps] using hk
      refine ⟨List.pairwise_append.2 ⟨h1, by simp, fun x hx y hy => ?_⟩, fun x => ?_⟩
      · rw [List.mem_singleton] at hy
        subst hy
        obtain ⟨j, hj, rfl⟩ := (h2 x).1 hx
        have a1 := hs j (m - 1) (by omega) (by omega)
        have a2 := hs (m - 1) m (by omega) (by omega)
        rcases hk' with e | e
        · omega
        · omega
      · rw [List.mem_append, List.mem_singleton, h2]
        constructor
        · rintro (⟨j, hj, e⟩ | rfl)
          · exact ⟨j, by omega, e⟩
          · exact ⟨m, by omega, rfl⟩
        · rintro ⟨j, hj, e⟩
          by_cases hjm : j = m
          · subst hjm; exact .inr e.symm
          · exact .inl ⟨j, by omega, e⟩
    · rw [if_neg hk, List.append_nil]
      have hk' : ¬ (m = 0 ∨ d[m]! ≠ d[m - 1]!) := by simpa [Lib.keeps] using hk
      refine ⟨h1, fun x => ?_⟩
      rw [h2]
      constructor
      · rintro ⟨j, hj, e⟩; exact ⟨j, by omega, e⟩
      · rintro ⟨j, hj, e⟩
        by_cases hjm : j = m
        · subst hjm
          exact ⟨j - 1, by omega, by have : d[j]! = d[j - 1]! := by by_cases h : d[j]! = d[j - 1]!; exact h; exact absurd (Or.inr h) hk'
                                     rw [← this]; exact e⟩
        · exact ⟨j, by omega, e⟩
theorem compact_sorted (l : List Int) : (Lib.compact (l.mergeSort fun x y => decide (x ≤ y))).Pairwise (· < ·) ∧ ∀ x, x ∈ Lib.compact (l.mergeSort fun x y => decide (x ≤ y)) ↔ x ∈ l := by
  obtain ⟨s, hs⟩ : ∃ s, s = l.mergeSort fun x y => decide (x ≤ y) := ⟨_, rfl⟩
  have hp : s.Pairwise (fun x y => decide (x ≤ y) = true) := by
    rw [hs]
    exact List.pairwise_mergeSort (fun a b c h1 h2 => by simp only [decide_eq_true_eq] at *; omega) (fun a b => by simp only [Bool.or_eq_true, decide_eq_true_eq]; omega) l
  have hm : ∀ x, x ∈ s ↔ x ∈ l := fun x => by rw [hs]; exact (List.mergeSort_perm l _).mem_iff
  rw [← hs]
  have hsz : s.toArray.size = s.length := by simp
  have := comp_inv s.toArray (fun i j hij hj => by
    have hj' : j < s.length := by simpa using hj
    by_cases e : i = j
    · subst e; exact Int.le_refl _
    · have h3 := List.pairwise_iff_getElem.1 hp i j (by omega) hj' (by omega)
      simp only [decide_eq_true_eq] at h3
      simpa [List.getElem!_toArray, getElem!_pos, show i < s.length by omega, hj'] using h3) s.length (by simp)
  unfold Lib.compact
  refine ⟨this.1, fun x => ?_⟩
  rw [this.2, ← hm]
  constructor
  · rintro ⟨j, hj, rfl⟩
    simp [hj]
  · intro hx
    obtain ⟨j, hj, rfl⟩ := List.mem_iff_getElem.1 hx
    exact ⟨j, hj, by simp [hj]⟩

/-! the reference's merge sort that drops equals -/
def pushL (out : List Int) (x : Int) : List Int := if out.getLast? = some x then out else out ++ [x]
theorem rdS (xs : List Int) (i : Nat) (h : i < xs.length) : rd xs (i : Int) = xs[i] := by simp [rd, List.getD, h]
theorem push_eq {β : Type} (G : List Int → Option β) (out : List Int) (x : Int) (hb : out.length ≤ 67108864) :
    (if (out.length : Int) = 0 then (if out.length < 17592186044416 then G (out ++ [x]) else none) else (if 0 ≤ (wrap64 ((out.length : Int) - 1)) then (if (wrap64 ((out.length : Int) - 1)) < (out.length : Int) then (if (rd out (wrap64 ((out.length : Int) - 1))) = x then G out else (if out.length < 17592186044416 then G (out ++ [x]) else none)) else none) else none)) = G (pushL out x) := by
  by_cases h : out.length = 0
  · have e : out = [] := List.length_eq_zero_iff.1 h
    subst e
    simp [pushL]
  · have e1 : wrap64 ((out.length : Int) - 1) = ((out.length - 1 : Nat) : Int) := by rw [w64 (by omega) (by omega)]; omega
    rw [if_neg (by omega), e1, if_pos (by omega), if_pos (by omega), rdS out (out.length - 1) (by omega)]
    have e2 : out.getLast? = some (out[out.length - 1]'(by omega)) := by rw [List.getLast?_eq_getElem?, List.getElem?_eq_getElem (by omega)]
    unfold pushL
    rw [e2]
    by_cases h2 : out[out.length - 1]'(by omega) = x
    · rw [if_pos h2, if_pos (by rw [h2])]
    · rw [if_neg h2, if_pos (by omega), if_neg (by simpa using h2)]
theorem push_mem (out : List Int) (x y : Int) : y ∈ pushL out x ↔ y ∈ out ∨ y = x := by
  unfold pushL
  split
  · next h =>
    have := List.mem_of_getLast? h
    constructor
    · exact .inl
    · rintro (h1 | rfl)
      · exact h1
      · exact this
  · simp
theorem push_asc (out : List Int) (x : Int) (ha : out.Pairwise (· < ·)) (hl : ∀ y ∈ out, y ≤ x) : (pushL out x).Pairwise (· < ·) := by
  unfold pushL
  split
  · exact ha
  · next h =>
    refine List.pairwise_append.2 ⟨ha, by simp, fun y hy z hz => ?_⟩
    rw [List.mem_singleton] at hz
    subst hz
    have h1 := hl y hy
    by_cases e : y = z
    · subst e
      exfalso
      obtain ⟨i, hi, rfl⟩ := List.mem_iff_getElem.1 hy
      apply h
      rw [List.getLast?_eq_getElem?, List.getElem?_eq_getElem (by omega)]
      by_cases e2 : i = out.length - 1
      · subst e2; rfl
      · have h3 := List.pairwise_iff_getElem.1 ha i (out.length - 1) hi (by omega) (by omega)
        have h4 := hl _ (List.getElem_mem (show out.length - 1 < out.length by omega))
        omega
    · omega
theorem push_len (out : List Int) (x : Int) : (pushL out x).length ≤ out.length + 1 := by
  unfold pushL
  split <;> simp
theorem merge_l (a b : List Int) (ha : a.Pairwise (· < ·)) (hb : b.Pairwise (· < ·)) (la : a.length ≤ 16777216) (lb : b.length ≤ 16777216) : ∀ (n i j k : Nat) (out : List Int), i ≤ a.length → j ≤ b.length → (a.length - i) + (b.length - j) = n → 3 * n + 3 ≤ k → out.length ≤ i + j →
    out.Pairwise (· < ·) → (∀ x ∈ out, (∀ y ∈ a.drop i, x ≤ y) ∧ (∀ y ∈ b.drop j, x ≤ y)) →
    ∃ r, spec_l11Sorted.l0 k a b out (i : Int) (j : Int) = some r ∧ r.Pairwise (· < ·) ∧ r.length ≤ out.length + n ∧ ∀ x, x ∈ r ↔ x ∈ out ∨ x ∈ a.drop i ∨ x ∈ b.drop j := by
  intro n
  induction n with
  | zero =>
    intro i j k out hi hj hn hk hl ho hx
    obtain ⟨k, rfl⟩ := ksucc (show 0 < k by omega)
    obtain ⟨k, rfl⟩ := ksucc (show 0 < k by omega)
    rw [spec_l11Sorted.l0, if_neg (by omega), decide_eq_false (by omega), spec_l11Sorted.j1, if_neg (by simp)]
    refine ⟨out, rfl, ho, by omega, fun x => ?_⟩
    rw [List.drop_eq_nil_of_le (by omega), List.drop_eq_nil_of_le (by omega)]
    simp
  | succ n ih =>
    intro i j k out hi hj hn hk hl ho hx
    obtain ⟨k, rfl⟩ := ksucc (show 0 < k by omega)
    obtain ⟨k, rfl⟩ := ksucc (show 0 < k by omega)
    obtain ⟨k, rfl⟩ := ksucc (show 0 < k by omega)
    have e0 : spec_l11Sorted.l0 (k + 1 + 1 + 1) a b out (i : Int) (j : Int) = spec_l11Sorted.j1 (k + 1 + 1) a b out (i : Int) (j : Int) true := by
      rw [spec_l11Sorted.l0]
      by_cases h : (i : Int) < a.length
      · rw [if_pos h]
      · rw [if_neg h, decide_eq_true (by omega)]
    have takeA : ∀ (h : i < a.length), (∀ y ∈ b.drop j, a[i] ≤ y) → ∃ r, spec_l11Sorted.j2 (k + 1) a b out (i : Int) (j : Int) true = some r ∧ r.Pairwise (· < ·) ∧ r.length ≤ out.length + (n + 1) ∧ ∀ x, x ∈ r ↔ x ∈ out ∨ x ∈ a.drop i ∨ x ∈ b.drop j := by
      intro h hle
      rw [spec_l11Sorted.j2, if_pos rfl, if_pos (by omega), if_pos (by omega), rdS a i h, wnat (i := i) (by omega), push_eq (fun o => spec_l11Sorted.l0 k a b o ((i + 1 : Nat) : Int) (j : Int)) out a[i] (by omega)]
      have hd := List.drop_eq_getElem_cons h
      have hpa := ha.drop (i := i)
      rw [hd, List.pairwise_cons] at hpa
      obtain ⟨r, h1, h2, hL, h3⟩ := ih (i + 1) j k (pushL out a[i]) (by omega) hj (by omega) (by omega) (by have := push_len out a[i]; omega)
        (push_asc out _ ho (fun y hy => (hx y hy).1 _ (by rw [hd]; exact List.mem_cons_self)))
        (fun x hxm => by
          rcases (push_mem out _ x).1 hxm with h4 | rfl
          · exact ⟨fun y hy => (hx x h4).1 y (by rw [hd]; exact List.mem_cons_of_mem _ hy), (hx x h4).2⟩
          · exact ⟨fun y hy => by have := hpa.1 y hy; omega, hle⟩)
      refine ⟨r, h1, h2, by have := push_len out a[i]; omega, fun x => ?_⟩
      rw [h3, push_mem, hd, List.mem_cons]
      constructor
      · rintro ((h | h) | h | h)
        · exact .inl h
        · exact .inr (.inl (.inl h))
        · exact .inr (.inl (.inr h))
        · exact .inr (.inr h)
      · rintro (h | (h | h) | h)
        · exact .inl (.inl h)
        · exact .inl (.inr h)
        · exact .inr (.inl h)
        · exact .inr (.inr h)
    have takeB : ∀ (h : j < b.length), (∀ y ∈ a.drop i, b[j] ≤ y) → ∃ r, spec_l11Sorted.j2 (k + 1) a b out (i : Int) (j : Int) false = some r ∧ r.Pairwise (· < ·) ∧ r.length ≤ out.length + (n + 1) ∧ ∀ x, x ∈ r ↔ x ∈ out ∨ x ∈ a.drop i ∨ x ∈ b.drop j := by
      intro h hle
      rw [spec_l11Sorted.j2, if_neg (by simp), if_pos (by omega), if_pos (by omega), rdS b j h, wnat (i := j) (by omega), push_eq (fun o => spec_l11Sorted.l0 k a b o (i : Int) ((j + 1 : Nat) : Int)) out b[j] (by omega)]
      have hd := List.drop_eq_getElem_cons h
      have hpa := hb.drop (i := j)
      rw [hd, List.pairwise_cons] at hpa
      obtain ⟨r, h1, h2, hL, h3⟩ := ih i (j + 1) k (pushL out b[j]) hi (by omega) (by omega) (by omega) (by have := push_len out b[j]; omega)
        (push_asc out _ ho (fun y hy => (hx y hy).2 _ (by rw [hd]; exact List.mem_cons_self)))
        (fun x hxm => by
          rcases (push_mem out _ x).1 hxm with h4 | rfl
          · exact ⟨(hx x h4).1, fun y hy => (hx x h4).2 y (by rw [hd]; exact List.mem_cons_of_mem _ hy)⟩
          · exact ⟨hle, fun y hy => by have := hpa.1 y hy; omega⟩)
      refine ⟨r, h1, h2, by have := push_len out b[j]; omega, fun x => ?_⟩
      rw [h3, push_mem, hd, List.mem_cons]
      constructor
      · rintro ((h | h) | h | h)
        · exact .inl h
        · exact .inr (.inr (.inl h))
        · exact .inr (.inl h)
        · exact .inr (.inr (.inr h))
      · rintro (h | h | (h | h))
        · exact .inl (.inl h)
        · exact .inr (.inl h)
        · exact .inl (.inr h)
        · exact .inr (.inr h)
    rw [e0, spec_l11Sorted.j1, if_pos rfl]
    by_cases hjb : b.length ≤ j
    · rw [if_pos (by omega)]
      exact takeA (by omega) (fun y hy => by rw [List.drop_eq_nil_of_le hjb] at hy; simp at hy)
    · rw [if_neg (by omega)]
      by_cases hia : i < a.length
      · rw [if_pos (by omega), if_pos (by omega), if_pos (by omega), if_pos (by omega), rdS a i hia, rdS b j (by omega)]
        have hdA := List.drop_eq_getElem_cons hia
        have hdB := List.drop_eq_getElem_cons (show j < b.length by omega)
        have pA := ha.drop (i := i)
        have pB := hb.drop (i := j)
        rw [hdA, List.pairwise_cons] at pA
        rw [hdB, List.pairwise_cons] at pB
        by_cases hc : a[i] ≤ b[j]'(by omega)
        · rw [decide_eq_true hc]
          exact takeA hia (fun y hy => by rw [hdB, List.mem_cons] at hy; rcases hy with rfl | hy; exact hc; have := pB.1 y hy; omega)
        · rw [decide_eq_false hc]
          exact takeB (by omega) (fun y hy => by rw [hdA, List.mem_cons] at hy; rcases hy with rfl | hy; omega; have := pA.1 y hy; omega)
      · rw [if_neg (by omega)]
        exact takeB (by omega) (fun y hy => by rw [List.drop_eq_nil_of_le (by omega)] at hy; simp at hy)
theorem sorted_ev : ∀ (N : Nat) (l : List Int) (k : Nat), l.length ≤ N → l.length ≤ 16777216 → 4 * N + 10 ≤ k →
    ∃ r, spec_l11Sorted.f k l = some r ∧ r.Pairwise (· < ·) ∧ r.length ≤ l.length ∧ (∀ x, x ∈ r ↔ x ∈ l) := by
  intro N
  induction N with
  | zero =>
    intro l k h hb hk
    obtain ⟨k, rfl⟩ := ksucc (show 0 < k by omega)
    have e : l = [] := List.length_eq_zero_iff.1 (by omega)
    subst e
    exact ⟨[], by rw [spec_l11Sorted.f, if_pos (by simp)]; rfl, by simp, by simp, by simp⟩
  | succ N ih =>
    intro l k h hb hk
    obtain ⟨k, rfl⟩ := ksucc (show 0 < k by omega)
    by_cases h2 : (l.length : Int) < 2
    · refine ⟨l, by rw [spec_l11Sorted.f, if_pos h2]; simp; omega, ?_, Nat.le_refl _, by simp⟩
      match l, h2 with
      | [], _ => simp
      | [x], _ => simp
      | x :: y :: t, h2 => simp at h2; omega
    · have e1 : wrap64 ((l.length : Int) / 2) = ((l.length / 2 : Nat) : Int) := by rw [w64 (by omega) (by omega)]; omega
      obtain ⟨a, a1, a2, aL, a3⟩ := ih (l.take (l.length / 2)) k (by rw [List.length_take]; omega) (by rw [List.length_take]; omega) (by omega)
      obtain ⟨b, b1, b2, bL, b3⟩ := ih (l.drop (l.length / 2)) k (by rw [List.length_drop]; omega) (by rw [List.length_drop]; omega) (by omega)
      rw [List.length_take] at aL
      rw [List.length_drop] at bL
      obtain ⟨r, r1, r2, rL, r3⟩ := merge_l a b a2 b2 (by omega) (by omega) (a.length + b.length) 0 0 k [] (by omega) (by omega) (by omega) (by omega) (by simp) (by simp) (by simp)
      refine ⟨r, ?_, r2, by simp at rL; omega, fun x => ?_⟩
      · rw [spec_l11Sorted.f, if_neg h2, e1, if_pos (by omega), if_pos (by omega), Int.toNat_natCast, a1, Option.bind_some, b1, Option.bind_some]
        exact r1
      · rw [r3, List.drop_zero, List.drop_zero, a3, b3]
        constructor
        · rintro (h | h | h)
          · simp at h
          · exact List.mem_of_mem_take h
          · exact List.mem_of_mem_drop h
        · intro h
          rw [← List.take_append_drop (l.length / 2) l, List.mem_append] at h
          rcases h with h | h
          · exact .inr (.inl h)
          · exact .inr (.inr h)
theorem sorted_same (l : List Int) (hb : l.length ≤ 16777216) (k : Nat) (hk : 4 * l.length + 10 ≤ k) : spec_l11Sorted.f k l = some (Lib.compact (l.mergeSort fun x y => decide (x ≤ y))) := by
  obtain ⟨r, h1, h2, _, h3⟩ := sorted_ev l.length l k (Nat.le_refl _) hb hk
  obtain ⟨h4, h5⟩ := compact_sorted l
  rw [h1, asc_ext h2 h4 (fun x => by rw [h3, h5])]

/-! Robots, made of what came in -/
def cvRobot (y : S117) : S89 := ⟨y.f0, y.f1, y.f2, y.f3⟩
theorem rdLRobot (xs : List S117) (i : Nat) (h : i < xs.length) : rd_T117 xs (i : Int) = xs[i] := by simp [rd_T117, List.getD, h]
theorem toRobotS_l (xs : List S117) (hb : xs.length ≤ 1048576) : ∀ (d i k : Nat), i + d = xs.length → d < k →
    laws_toRobotS.l0 k xs ((xs.take i).map cvRobot ++ List.replicate d z89) (i : Int) = some (xs.map cvRobot) := by
  intro d
  induction d with
  | zero =>
    intro i k h hk
    obtain ⟨k, rfl⟩ := ksucc hk
    simp only [laws_toRobotS.l0]
    rw [if_neg (by omega), List.take_of_length_le (by omega)]
    simp
  | succ d ih =>
    intro i k h hk
    obtain ⟨k, rfl⟩ := ksucc hk
    have hi : i < xs.length := by omega
    simp only [laws_toRobotS.l0, laws_toRobot.f, Option.bind_some]
    rw [if_pos (by omega), if_pos (by omega), if_pos (by simp; omega), rdLRobot xs i hi, wnat (by omega)]
    have e : (i : Int).toNat = i := by simp
    rw [e]
    exact (congrArg (fun z => laws_toRobotS.l0 k xs z ((i + 1 : Nat) : Int)) (fill_step cvRobot z89 xs i d h hi)).trans (ih (i + 1) k (by omega) (by omega))
theorem toRobotS_ev (xs : List S117) (hb : xs.length ≤ 1048576) (k : Nat) (hk : xs.length < k) : laws_toRobotS.f k xs = some (xs.map cvRobot) := by
  unfold laws_toRobotS.f
  rw [if_pos (by omega), if_pos (by omega)]
  have := toRobotS_l xs hb xs.length 0 k (by omega) hk
  simpa using this

/-! Robots, compared -/
theorem rdIRobot (xs : List S89) (i : Nat) (h : i < xs.length) : rd_T89 xs (i : Int) = xs[i] := by simp [rd_T89, List.getD, h]
theorem eqRobot_refl (x0 : Int) (x1 : Int) (x2 : Int) (x3 : Bool) : laws_eqRobot.f x0 x1 x2 x3 x0 x1 x2 x3 = some true := by simp [laws_eqRobot.f]
theorem eqRobotS_l (xs : List S89) (hb : xs.length ≤ 1048576) : ∀ (d i k : Nat), i + d = xs.length → d < k → laws_eqRobotS.l0 k xs xs (i : Int) = some true := by
  intro d
  induction d with
  | zero =>
    intro i k h hk
    obtain ⟨k, rfl⟩ := ksucc hk
    simp only [laws_eqRobotS.l0]
    rw [if_neg (by omega)]
  | succ d ih =>
    intro i k h hk
    obtain ⟨k, rfl⟩ := ksucc hk
    simp only [laws_eqRobotS.l0, eqRobot_refl, Option.bind_some]
    rw [if_pos (by omega), if_pos (by omega), if_pos (by omega), if_pos trivial, wnat (by omega)]
    exact ih (i + 1) k (by omega) (by omega)
theorem eqRobotS_ev (xs : List S89) (hb : xs.length ≤ 1048576) (k : Nat) (hk : xs.length < k) : laws_eqRobotS.f k xs xs = some true := by
  unfold laws_eqRobotS.f
  rw [if_pos rfl]
  exact eqRobotS_l xs hb xs.length 0 k (by omega) hk

/-! lists of numbers, compared -/
theorem rdN (xs : List Int) (i : Nat) (h : i < xs.length) : rd xs (i : Int) = xs[i] := by simp [rd, List.getD, h]
theorem eqIntS_l (xs : List Int) (hb : xs.length ≤ 16777216) : ∀ (d i k : Nat), i + d = xs.length → d < k → laws_eqIntS.l0 k xs xs (i : Int) = some true := by
  intro d
  induction d with
  | zero =>
    intro i k h hk
    obtain ⟨k, rfl⟩ := ksucc hk
    rw [laws_eqIntS.l0, if_neg (by omega)]
  | succ d ih =>
    intro i k h hk
    obtain ⟨k, rfl⟩ := ksucc hk
    rw [laws_eqIntS.l0, if_pos (by omega), if_pos (by omega), if_pos (by omega), if_pos rfl, wnat (by omega)]
    exact ih (i + 1) k (by omega) (by omega)
theorem eqIntS_ev (xs : List Int) (hb : xs.length ≤ 16777216) (k : Nat) (hk : xs.length < k) : laws_eqIntS.f k xs xs = some true := by
  unfold laws_eqIntS.f
  rw [if_pos rfl]
  exact eqIntS_l xs hb xs.length 0 k (by omega) hk

/-! lists of numbers, marked -/
def nums1 (n m : Nat) : List Int := (List.range' n m).map fun (i : Nat) => (i : Int)
theorem nums1_length (n m : Nat) : (nums1 n m).length = m := by simp [nums1]
theorem nums1_get (n m i : Nat) (h : i < (nums1 n m).length) : (nums1 n m)[i] = ((n + i : Nat) : Int) := by simp [nums1]
theorem nums1_snoc (n m : Nat) : nums1 n (m + 1) = nums1 n m ++ [((n + m : Nat) : Int)] := by simp [nums1, List.range'_concat]
theorem markIntS_l (xs : List Int) (n : Nat) (hn : n ≤ 100000000) (hb : xs.length ≤ 16777216) : ∀ (d i k : Nat), i + d = xs.length → d < k →
    laws_markIntS.l0 k (nums1 n i ++ xs.drop i) ((n + i : Nat) : Int) (i : Int) = some (((n + xs.length : Nat) : Int), nums1 n xs.length) := by
  intro d
  induction d with
  | zero =>
    intro i k h hk
    obtain ⟨k, rfl⟩ := ksucc hk
    have e : i = xs.length := by omega
    subst e
    have hl : (nums1 n xs.length ++ xs.drop xs.length).length = xs.length := by simp [nums1_length]
    rw [laws_markIntS.l0, if_neg (by rw [hl]; omega)]
    simp
  | succ d ih =>
    intro i k h hk
    obtain ⟨k, rfl⟩ := ksucc hk
    have hi : i < xs.length := by omega
    have hml := nums1_length n i
    have hl : (nums1 n i ++ xs.drop i).length = xs.length := by simp [hml]; omega
    rw [laws_markIntS.l0, if_pos (by rw [hl]; omega), if_pos (by omega)]
    have e0 : (i : Int).toNat = i := by omega
    rw [e0, wnat (i := n + i) (by omega), wnat (i := i) (by omega), List.drop_eq_getElem_cons hi, List.set_append_right _ _ (by omega), hml, Nat.sub_self, List.set_cons_zero]
    have e1 : nums1 n i ++ ((n + i : Nat) : Int) :: xs.drop (i + 1) = nums1 n (i + 1) ++ xs.drop (i + 1) := by rw [nums1_snoc, List.append_assoc]; rfl
    rw [e1]
    exact ih (i + 1) k (by omega) (by omega)
theorem markIntS_ev (xs : List Int) (n : Nat) (hn : n ≤ 100000000) (hb : xs.length ≤ 16777216) (k : Nat) (hk : xs.length < k) : laws_markIntS.f k xs (n : Int) = some (((n + xs.length : Nat) : Int), nums1 n xs.length) := by
  have := markIntS_l xs n hn hb xs.length 0 k (by omega) hk
  simpa [laws_markIntS.f, nums1] using this
theorem heldIntS_l (n m : Nat) (hn : n ≤ 100000000) (hb : m ≤ 16777216) : ∀ (d i k : Nat), i + d = m → d < k →
    laws_heldIntS.l0 k (nums1 n m) ((n + i : Nat) : Int) (i : Int) = some ((n + m : Nat) : Int) := by
  intro d
  have hml := nums1_length n m
  induction d with
  | zero =>
    intro i k h hk
    obtain ⟨k, rfl⟩ := ksucc hk
    have e : i = m := by omega
    subst e
    rw [laws_heldIntS.l0, if_neg (by omega)]
  | succ d ih =>
    intro i k h hk
    obtain ⟨k, rfl⟩ := ksucc hk
    rw [laws_heldIntS.l0, if_pos (by omega), if_pos (by omega), rdN _ i (by omega), nums1_get, if_pos rfl, wnat (i := n + i) (by omega), wnat (i := i) (by omega)]
    exact ih (i + 1) k (by omega) (by omega)
theorem heldIntS_ev (n m : Nat) (hn : n ≤ 100000000) (hb : m ≤ 16777216) (k : Nat) (hk : m < k) : laws_heldIntS.f k (nums1 n m) (n : Int) = some ((n + m : Nat) : Int) := by
  have := heldIntS_l n m hn hb m 0 k (by omega) hk
  simpa [laws_heldIntS.f] using this

theorem markRobot_l : ∀ (d i k : Nat) (xs : List S89) (v : Int), i + d = xs.length → d < k → d ≤ 1048576 → xs.length ≤ 1048576 → 0 ≤ v → v + 4 * d ≤ 100000000 → ∃ m ys, laws_markRobotS.l0 k xs v (i : Int) = some (m, ys) ∧ 0 ≤ m := by
  intro d
  induction d with
  | zero =>
    intro i k xs v h hk _ _ hv _
    obtain ⟨k, rfl⟩ := ksucc hk
    exact ⟨v, xs, by rw [laws_markRobotS.l0, if_neg (by omega)], hv⟩
  | succ d ih =>
    intro i k xs v h hk hd hl hv hv2
    obtain ⟨k, rfl⟩ := ksucc hk
    rw [laws_markRobotS.l0, if_pos (by omega), if_pos (by omega), wnat (i := i) (by omega), w64 (x := v + 1) (by omega) (by omega), w64 (x := v + 1 + 1) (by omega) (by omega), w64 (x := v + 1 + 1 + 1) (by omega) (by omega), w64 (x := v + 1 + 1 + 1 + 1) (by omega) (by omega)]
    simp only [Option.bind_some]
    exact ih (i + 1) k _ (v + 1 + 1 + 1 + 1) (by simp only [List.length_set]; omega) (by omega) (by omega) (by simp only [List.length_set]; omega) (by omega) (by omega)

theorem heldBy_l (xs : List S89) (c : Bool) (hb : xs.length ≤ 1048576) : ∀ (d i k : Nat) (out : List Int), i + d = xs.length → 2 * d + 8388700 < k → out.length ≤ 2 * i →
    ∃ r, spec_HeldBy.l0 k xs c (out.filter fun x => !decide (x < 0)) (i : Int) = some r ∧ impl_HeldBy.l0 k c out xs (xs.length : Int) (i : Int) = some r ∧ r.length ≤ 2097152 := by
  intro d
  induction d with
  | zero =>
    intro i k out h hk ho
    obtain ⟨k, rfl⟩ := ksucc (show 0 < k by omega)
    have hf : (out.filter fun x => !decide (x < 0)).length ≤ out.length := List.length_filter_le _ _
    refine ⟨_, by rw [spec_HeldBy.l0, if_neg (by omega), sorted_same _ (by omega) k (by omega)]; rfl, by rw [impl_HeldBy.l0, if_neg (by omega)]; unfold impl_HeldBy_1.f impl_ordered.f; simp only [Option.bind_some]; rw [if_pos (by omega)]; rfl, ?_⟩
    have h1 := Lib.compact_length_le ((out.filter fun x => !decide (x < 0)).mergeSort fun x y => decide (x ≤ y))
    rw [List.length_mergeSort] at h1
    omega
  | succ d ih =>
    intro i k out h hk ho
    obtain ⟨k, rfl⟩ := ksucc (show 0 < k by omega)
    obtain ⟨k, rfl⟩ := ksucc (show 0 < k by omega)
    have hi : i < xs.length := by omega
    have hf : (out.filter fun x => !decide (x < 0)).length ≤ out.length := List.length_filter_le _ _
    have hf1 : ((out.filter fun x => !decide (x < 0)) ++ [xs[i].f1]).length ≤ out.length + 1 := by simp; omega
    have e2 : ∀ o, (impl_heldBy.f xs[i].f0 xs[i].f1 xs[i].f2 xs[i].f3 = some o → o.length ≤ 2 → impl_HeldBy.l0 (k + 1 + 1) c out xs (xs.length : Int) (i : Int) = if (xs[i].f3 == c) = true then impl_HeldBy.l0 (k + 1) c (out ++ o) xs (xs.length : Int) ((i + 1 : Nat) : Int) else impl_HeldBy.l0 (k + 1) c out xs (xs.length : Int) ((i + 1 : Nat) : Int)) := by
      intro o e l
      rw [impl_HeldBy.l0, if_pos (by omega), if_pos (by omega), if_pos (by omega), rdIRobot xs i hi, e, Option.bind_some, wnat (i := i) (by omega)]
      by_cases hc : (xs[i].f3 == c) = true
      · rw [if_pos hc, if_pos hc, if_pos (by omega)]
      · rw [if_neg hc, if_neg hc]
    by_cases h1 : (xs[i].f3 == c) = true
    · by_cases h2 : xs[i].f2 < 0
      · have eI := e2 [xs[i].f1] (by unfold impl_heldBy.f; rw [if_pos h2]) (by simp)
        rw [if_pos h1] at eI
        obtain ⟨r, g1, g2, g3⟩ := ih (i + 1) k (out ++ [xs[i].f1]) (by omega) (by omega) (by simp; omega)
        obtain ⟨r', g1', g2', g3'⟩ := ih (i + 1) (k + 1) (out ++ [xs[i].f1]) (by omega) (by omega) (by simp; omega)
        have er : r' = r := by
          have h9 := at_rounds (g := fun k => impl_HeldBy.l0 k c (out ++ [xs[i].f1]) xs (xs.length : Int) ((i + 1 : Nat) : Int)) (fun k => (impl_HeldBy.mono_l k) _ _ _ _ _) (show k ≤ k + 1 by omega) (r := r) g2
          exact Option.some.inj (g2'.symm.trans h9)
        refine ⟨r, ?_, eI.trans (er ▸ g2'), g3⟩
        rw [spec_HeldBy.l0, if_pos (by omega), if_pos (by omega), rdIRobot xs i hi, if_pos h1, spec_HeldBy.j1]
        rw [List.filter_append] at g1
        by_cases h3 : xs[i].f1 ≥ 0
        · rw [if_pos (decide_eq_true h3), if_pos (by omega), if_pos (by omega), if_pos (by omega), Option.bind_some, rdIRobot xs i hi, if_pos h1, if_neg (by omega), wnat (i := i) (by omega)]
          rw [List.filter_cons_of_pos (by simp; omega), List.filter_nil] at g1
          exact g1
        · rw [if_neg (by simp only [decide_eq_true_eq]; omega), if_pos (by omega), if_pos (by omega), rdIRobot xs i hi, if_pos h1, if_neg (by omega), wnat (i := i) (by omega)]
          rw [List.filter_cons_of_neg (by simp; omega), List.filter_nil, List.append_nil] at g1
          exact g1
      · have eI := e2 [xs[i].f1, xs[i].f2] (by unfold impl_heldBy.f; rw [if_neg h2]) (by simp)
        rw [if_pos h1] at eI
        obtain ⟨r, g1, g2, g3⟩ := ih (i + 1) k (out ++ [xs[i].f1, xs[i].f2]) (by omega) (by omega) (by simp; omega)
        obtain ⟨r', g1', g2', g3'⟩ := ih (i + 1) (k + 1) (out ++ [xs[i].f1, xs[i].f2]) (by omega) (by omega) (by simp; omega)
        have er : r' = r := by
          have h9 := at_rounds (g := fun k => impl_HeldBy.l0 k c (out ++ [xs[i].f1, xs[i].f2]) xs (xs.length : Int) ((i + 1 : Nat) : Int)) (fun k => (impl_HeldBy.mono_l k) _ _ _ _ _) (show k ≤ k + 1 by omega) (r := r) g2
          exact Option.some.inj (g2'.symm.trans h9)
        refine ⟨r, ?_, eI.trans (er ▸ g2'), g3⟩
        rw [spec_HeldBy.l0, if_pos (by omega), if_pos (by omega), rdIRobot xs i hi, if_pos h1, spec_HeldBy.j1]
        rw [List.filter_append] at g1
        by_cases h3 : xs[i].f1 ≥ 0
        · rw [if_pos (decide_eq_true h3), if_pos (by omega), if_pos (by omega), if_pos (by omega), Option.bind_some, rdIRobot xs i hi, if_pos h1, if_pos (by omega), if_pos (by omega), wnat (i := i) (by omega)]
          rw [List.filter_cons_of_pos (by simp; omega), List.filter_cons_of_pos (by simp; omega), List.filter_nil] at g1
          rw [List.append_assoc]
          exact g1
        · rw [if_neg (by simp only [decide_eq_true_eq]; omega), if_pos (by omega), if_pos (by omega), rdIRobot xs i hi, if_pos h1, if_pos (by omega), if_pos (by omega), wnat (i := i) (by omega)]
          rw [List.filter_cons_of_neg (by simp; omega), List.filter_cons_of_pos (by simp; omega), List.filter_nil] at g1
          exact g1
    · obtain ⟨o, ho1, ho2⟩ : ∃ o, impl_heldBy.f xs[i].f0 xs[i].f1 xs[i].f2 xs[i].f3 = some o ∧ o.length ≤ 2 := by
        unfold impl_heldBy.f
        by_cases h2 : xs[i].f2 < 0
        · exact ⟨_, if_pos h2, by simp⟩
        · exact ⟨_, if_neg h2, by simp⟩
      have eI := e2 o ho1 ho2
      rw [if_neg h1] at eI
      obtain ⟨r, g1, g2, g3⟩ := ih (i + 1) k out (by omega) (by omega) (by omega)
      obtain ⟨r', g1', g2', g3'⟩ := ih (i + 1) (k + 1) out (by omega) (by omega) (by omega)
      have er : r' = r := by
        have h9 := at_rounds (g := fun k => impl_HeldBy.l0 k c out xs (xs.length : Int) ((i + 1 : Nat) : Int)) (fun k => (impl_HeldBy.mono_l k) _ _ _ _ _) (show k ≤ k + 1 by omega) (r := r) g2
        exact Option.some.inj (g2'.symm.trans h9)
      refine ⟨r, ?_, eI.trans (er ▸ g2'), g3⟩
      rw [spec_HeldBy.l0, if_pos (by omega), if_pos (by omega), rdIRobot xs i hi, if_neg h1, spec_HeldBy.j1, if_neg (by simp), if_pos (by omega), if_pos (by omega), rdIRobot xs i hi, if_neg h1, wnat (i := i) (by omega)]
      exact g1
theorem FnExactHeldBy : OpFnExactHeldBy.Pure := by
  intro y c hy
  have hy1 := hy.1
  obtain ⟨K, hK⟩ : ∃ K, 12000000 < K := ⟨12000001, by omega⟩
  refine ⟨K, ?_⟩
  unfold laws_FnExactHeldBy.f laws_szRobotS.f
  rw [w64 (by omega) (by omega)]
  by_cases h1 : 1048576 - (y.length : Int) < 0
  · rw [if_pos h1]; simp
  rw [if_neg h1]
  simp only [Option.bind_some]
  rw [if_neg h1]
  have hl : y.length ≤ 1048576 := by omega
  have hm : (y.map cvRobot).length ≤ 1048576 := by simpa using hl
  have held : ∀ k, 10600000 < k → ∃ r, spec_HeldBy.f k (y.map cvRobot) c = some r ∧ impl_HeldBy.f k (y.map cvRobot) c = some r ∧ r.length ≤ 2097152 := by
    intro k hk
    exact heldBy_l (y.map cvRobot) c hm (y.map cvRobot).length 0 k [] (by omega) (by omega) (by simp)
  obtain ⟨r, u1, u2, u3⟩ := held K (by omega)
  obtain ⟨K, rfl⟩ := ksucc (show 0 < K by omega)
  have u4 : impl_HeldBy.f K (y.map cvRobot) c = some r := by
    obtain ⟨r', _, v2, _⟩ := held K (by omega)
    have := impl_HeldBy.mono (y.map cvRobot) c K
    rw [v2] at this
    have h9 := at_rounds (g := fun k => impl_HeldBy.f k (y.map cvRobot) c) (fun k => impl_HeldBy.mono _ _ k) (show K ≤ K + 1 by omega) (r := r') v2
    rw [v2, h9.symm.trans u2]
  rw [toRobotS_ev y hl _ (by omega), Option.bind_some, u1, Option.bind_some, Option.bind_some, u2, Option.bind_some, eqIntS_ev r (by omega) _ (by omega), Option.bind_some, if_pos rfl, Option.bind_some, eqRobotS_ev _ hm _ (by omega), Option.bind_some, if_pos rfl]
  obtain ⟨m, ys, m1, m2⟩ := markRobot_l (y.map cvRobot).length 0 (K + 1) (y.map cvRobot) 1 (by omega) (by omega) hm hm (by omega) (by omega)
  have m1' : laws_markRobotS.f (K + 1) (y.map cvRobot) 1 = some (m, ys) := m1
  rw [m1', Option.bind_some, if_neg (by show ¬ m < 0; omega), Option.bind_some]
  rw [show (!true) = false from rfl, laws_FnExactHeldBy.j0, if_neg (by simp)]
  have mk := markIntS_ev r 1 (by omega) (by omega) K (by omega)
  rw [show ((1 : Nat) : Int) = 1 from rfl] at mk
  have hd := heldIntS_ev 1 r.length (by omega) (by omega) K (by omega)
  rw [show ((1 : Nat) : Int) = 1 from rfl] at hd
  rw [mk]
  simp only [Option.bind_some]
  rw [hd]
  simp only [Option.bind_some]
  rw [if_neg (by omega), if_pos trivial, toRobotS_ev y hl _ (by omega)]
  simp only [Option.bind_some]
  rw [u4]
  simp only [Option.bind_some]
  rw [eqIntS_ev r (by omega) _ (by omega)]
  simp only [Option.bind_some]
  rw [if_pos trivial, if_neg (by omega), if_pos trivial]

end Go.Proofs.Ytomchkdbhcakoaa.Pure
