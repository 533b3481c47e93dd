/- Plain laws about reading a row of numbers in two ways. -/
import Derived.Test.YtfhjipfkaemapaaGreatPuN
namespace Go.Proofs.YtfhjipfkaemapaaGreat.Pu
open Go Go.Av Go.Proofs Go.Proofs.YtfhjipfkaemapaaGreat.V
set_option linter.unusedVariables false
set_option linter.unusedSimpArgs false
def Jn (l d : List Int) (p : Int) (b : Bool) (j : Nat) (b' : Bool) : Prop :=
 0 ≤ p ∧ p ≤ (l.length : Int) ∧ ((b' = true ∧ b = true) ∨ (b' = false ∧ p = (j : Int) ∧ d.length = j ∧ (b = false ↔ d = l.take j)))
theorem Jn.bad {l d : List Int} {p : Int} {b b' : Bool} {j : Nat} (h0 : 0 ≤ p) (h1 : p ≤ (l.length : Int)) (h2 : b' = true) (h3 : b = true) : Jn l d p b j b' := ⟨h0, h1, .inl ⟨h2, h3⟩⟩
def sNext (l : List Int) (p : Int) (b : Bool) : Int × Int × Bool := if (l.length : Int) ≤ p then (0, p, true) else (rdD 0 l p, p + 1, b)
def sCount (l : List Int) (m p : Int) (b : Bool) : Int × Int × Bool := if 0 ≤ (sNext l p b).1 ∧ (sNext l p b).1 ≤ m then sNext l p b else (0, (sNext l p b).2.1, true)
def iAny (l : List Int) (j : Nat) (b : Bool) : Int × Nat × Bool := if l.length ≤ j then (0, j, true) else if b = true then (0, j, b) else (rdD 0 l (j : Int), j + 1, b)
def iNext (l : List Int) (m : Int) (j : Nat) (b : Bool) : Int × Nat × Bool := if (iAny l j b).1 < 0 ∨ m < (iAny l j b).1 then (0, (iAny l j b).2.1, true) else iAny l j b
theorem sNext_eq (l : List Int) (hl : l.length ≤ 1048576) (p : Int) (b : Bool) (h0 : 0 ≤ p) (h1 : p ≤ (l.length : Int)) : spec_l31Next.f l p b = some (sNext l p b) := by
 unfold spec_l31Next.f sNext
 by_cases h : (l.length : Int) ≤ p
 ·rw [if_pos h, if_pos h]
 ·rw [if_neg h, if_neg h, w64e (x := p + 1) (by omega) (by omega), w64e (by omega) (by omega), if_pos (by omega), if_pos (by omega), show p + 1 - 1 = p by omega]
theorem sCount_eq (l : List Int) (hl : l.length ≤ 1048576) (m p : Int) (hm : 0 ≤ m) (b : Bool) (h0 : 0 ≤ p) (h1 : p ≤ (l.length : Int)) : spec_l31Count.f l p b m = some (sCount l m p b) := by
 unfold spec_l31Count.f spec_l01In.f
 rw [sNext_eq l hl p b h0 h1, Option.bind_some]
 unfold sCount
 generalize sNext l p b = t
 by_cases c1 : 0 ≤ t.1
 ·rw [if_pos c1, Option.bind_some]
  by_cases c2 : t.1 ≤ m
  ·rw [if_pos (by simpa using c2), if_pos ⟨c1, c2⟩]
  ·rw [if_neg (by simpa using c2), if_neg (fun h => c2 h.2)]
 ·rw [if_neg c1, Option.bind_some, if_neg (by simp), if_neg (fun h => c1 h.1)]
theorem rd_drop (l : List Int) (j : Nat) : rdD 0 (l.drop j) 0 = rdD 0 l (j : Int) := by
 simp [rdD, List.getD_eq_getElem?_getD]
theorem iAny_eq (l : List Int) (j : Nat) (b : Bool) : impl_numbers_any.f l j b = some (iAny l j b) := by
 unfold impl_numbers_any.f iAny
 rw [List.length_drop, rd_drop]
 by_cases h : l.length ≤ j
 ·rw [if_pos (by omega), if_pos h]
 ·rw [if_neg (by omega), if_neg h]
  by_cases hb : b = true
  ·rw [if_pos hb, if_pos hb]
  ·rw [if_neg hb, if_neg hb, if_pos (by omega), if_pos (by omega)]
theorem any_bad {l : List Int} {j : Nat} {b : Bool} (h : (iAny l j b).2.2 = true) : (iAny l j b).1 = 0 := by
 unfold iAny at h ⊢
 by_cases h1 : l.length ≤ j
 ·rw [if_pos h1]
 ·rw [if_neg h1] at h ⊢
  by_cases hb : b = true
  ·rw [if_pos hb]
  ·rw [if_neg hb] at h
   exact absurd h hb
theorem iNext_eq (l : List Int) (m : Int) (j : Nat) (b : Bool) : impl_numbers_next.f l j b m = some (iNext l m j b) := by
 unfold impl_numbers_next.f
 rw [iAny_eq, Option.bind_some]
 unfold iNext
 have h0 := any_bad (l := l) (j := j) (b := b)
 generalize iAny l j b = t at h0
 by_cases c1 : t.1 < 0
 ·rw [if_pos c1, if_pos (.inl c1)]
 ·rw [if_neg c1]
  by_cases c2 : m < t.1
  ·rw [if_pos c2, if_pos (.inr c2)]
  ·rw [if_neg c2, if_neg (show ¬ (t.1 < 0 ∨ m < t.1) by omega)]
   by_cases c3 : t.2.2 = true
   ·rw [if_pos c3, ← h0 c3]
   ·rw [if_neg c3]
theorem count_rng (l : List Int) {m : Int} (hm : 0 ≤ m) (p : Int) (b : Bool) : 0 ≤ (sCount l m p b).1 ∧ (sCount l m p b).1 ≤ m := by
 unfold sCount
 split
 ·assumption
 ·exact ⟨Int.le_refl _, hm⟩
theorem next_rng (l : List Int) {m : Int} (hm : 0 ≤ m) (j : Nat) (b : Bool) : 0 ≤ (iNext l m j b).1 ∧ (iNext l m j b).1 ≤ m := by
 unfold iNext
 split
 ·exact ⟨Int.le_refl _, hm⟩
 ·rename_i h; omega
def Pair (l : List Int) {α : Type} (f : Int → Bool → α × Int × Bool) (g : Nat → Bool → α × Nat × Bool) (ser : α → List Int) : Prop :=
 ∀ d p b j b', Jn l d p b j b' → Jn l (d ++ ser (g j b').1) (f p b).2.1 (f p b).2.2 (g j b').2.1 (g j b').2.2 ∧ ((g j b').2.2 = false → b' = false ∧ (f p b).1 = (g j b').1)
theorem take_next (l d : List Int) (j : Nat) (h : j < l.length) (hd : d.length = j) (v : Int) : d ++ [v] = l.take (j + 1) ↔ d = l.take j ∧ v = rdD 0 l (j : Int) := by
 rw [rdn 0 l j h, List.take_succ_eq_append_getElem h]
 constructor
 ·intro e
  obtain ⟨h1, h2⟩ := List.append_inj e (by rw [List.length_take]; omega)
  exact ⟨h1, by simpa using h2⟩
 ·rintro ⟨h1, h2⟩
  rw [← h1, h2]
theorem pair_any (l : List Int) : Pair l (sNext l) (iAny l) (fun v => [v]) := by
 rintro d p b j b' ⟨h0, h1, ⟨rfl, rfl⟩ | ⟨rfl, rfl, h2, h3⟩⟩
 ·unfold sNext iAny
  constructor
  ·refine Jn.bad ?_ ?_ ?_ ?_ <;> (repeat' split) <;> simp_all <;> omega
  ·intro h
   split at h
   ·cases h
   ·simp at h
 ·unfold sNext iAny
  by_cases h : l.length ≤ j
  ·rw [if_pos h, if_pos (by omega)]
   exact ⟨Jn.bad h0 h1 rfl rfl, fun h => by cases h⟩
  ·rw [if_neg h, if_neg (by simp), if_neg (by omega)]
   refine ⟨⟨by show 0 ≤ (j : Int) + 1; omega, by show (j : Int) + 1 ≤ (l.length : Int); omega, .inr ⟨rfl, by show (j : Int) + 1 = ((j + 1 : Nat) : Int); omega, by simp [h2], ?_⟩⟩, fun _ => ⟨rfl, rfl⟩⟩
   show b = false ↔ _
   rw [take_next l d j (by omega) h2, h3]
   simp
theorem pair_count (l : List Int) (m : Int) : Pair l (sCount l m) (iNext l m) (fun v => [v]) := by
 intro d p b j b' hJ
 obtain ⟨h1, h2⟩ := pair_any l d p b j b' hJ
 unfold sCount iNext
 generalize sNext l p b = t at *
 generalize iAny l j b' = t' at *
 by_cases c : t'.1 < 0 ∨ m < t'.1
 ·rw [if_pos c]
  refine ⟨Jn.bad ?_ ?_ rfl ?_, fun h => by cases h⟩
  ·split <;> exact h1.1
  ·split <;> exact h1.2.1
  ·split
   ·rename_i c2
    rcases h1.2.2 with ⟨_, h⟩ | ⟨h, _⟩
    ·exact h
    ·have := (h2 h).2
     omega
   ·rfl
 ·rw [if_neg c]
  by_cases c2 : 0 ≤ t.1 ∧ t.1 ≤ m
  ·rw [if_pos c2]
   exact ⟨h1, h2⟩
  ·rw [if_neg c2]
   have hb : t'.2.2 = true := by
    cases hb : t'.2.2 with
    | true => rfl
    | false => have := (h2 hb).2; omega
   exact ⟨Jn.bad h1.1 h1.2.1 hb rfl, fun h => by rw [hb] at h; cases h⟩
def sFlag (l : List Int) (p : Int) (b : Bool) : Bool × Int × Bool := (decide ((sCount l 1 p b).1 = 1), (sCount l 1 p b).2)
def iFlag (l : List Int) (j : Nat) (b : Bool) : Bool × Nat × Bool := (decide ((iAny l j b).1 = 1), (iAny l j b).2)
theorem pair_flag (l : List Int) : Pair l (sFlag l) (iFlag l) (fun v => [flagI v]) := by
 intro d p b j b' hJ
 have hJ0 := hJ
 obtain ⟨h1, h2⟩ := pair_any l d p b j b' hJ
 unfold sFlag iFlag sCount
 have hrd : (iAny l j b').2.2 = false → j < l.length ∧ (iAny l j b').1 = rdD 0 l (j : Int) ∧ (iAny l j b').2.1 = j + 1 := fun h => by
  unfold iAny at h ⊢
  by_cases c : l.length ≤ j
  ·rw [if_pos c] at h; cases h
  ·rw [if_neg c] at h ⊢
   by_cases c2 : b' = true
   ·rw [if_pos c2] at h; rw [c2] at h; cases h
   ·rw [if_neg c2]; exact ⟨by omega, rfl, rfl⟩
 have hs : (sNext l p b).2.2 = false → b = false := fun h => by
  unfold sNext at h
  split at h
  ·cases h
  ·exact h
 have hs2 : (iAny l j b').2.2 = false → (sNext l p b).2.2 = b := fun h => by
  obtain ⟨c, _, _⟩ := hrd h
  obtain ⟨hb, _⟩ := h2 h
  rcases hJ0.2.2 with ⟨h3, _⟩ | ⟨_, h3, _⟩
  ·rw [hb] at h3; cases h3
  ·unfold sNext; rw [if_neg (by omega)]
 generalize sNext l p b = t at *
 generalize iAny l j b' = t' at *
 cases hb : t'.2.2 with
 | true =>
   refine ⟨Jn.bad ?_ ?_ rfl ?_, fun h => by cases h⟩
   ·split <;> exact h1.1
   ·split <;> exact h1.2.1
   ·split
    ·rcases h1.2.2 with ⟨_, h⟩ | ⟨h, _⟩
     ·exact h
     ·rw [hb] at h; cases h
    ·rfl
 | false =>
   obtain ⟨c, hv, hj⟩ := hrd hb
   obtain ⟨hb', hvv⟩ := h2 hb
   have hbb := hs2 hb
   rcases hJ0.2.2 with ⟨h3, _⟩ | ⟨_, h3, h4, h5⟩
   ·rw [hb'] at h3; cases h3
   rcases h1.2.2 with ⟨h6, _⟩ | ⟨_, h6, _, _⟩
   ·rw [hb] at h6; cases h6
   refine ⟨⟨by split <;> exact h1.1, by split <;> exact h1.2.1, .inr ⟨rfl, by split <;> exact h6, by simp [h4, hj], ?_⟩⟩, fun _ => ⟨hb', ?_⟩⟩
   ·show _ ↔ d ++ [flagI (decide (t'.1 = 1))] = l.take t'.2.1
    rw [hj, take_next l d j c h4, ← hv, ← h5]
    unfold flagI
    rw [← hvv]
    by_cases c2 : 0 ≤ t.1 ∧ t.1 ≤ 1
    ·rw [if_pos c2, hbb]
     by_cases e : t.1 = 1
     ·simp [e]
     ·have e0 : t.1 = 0 := by omega
      simp [e0]
    ·rw [if_neg c2]
     constructor
     ·intro h; cases h
     ·rintro ⟨_, h⟩
      exfalso
      by_cases e : t.1 = 1
      ·omega
      ·rw [if_neg (by simpa using e)] at h; omega
   ·show decide (_ = 1) = decide (_ = 1)
    rw [← hvv]
    by_cases c2 : 0 ≤ t.1 ∧ t.1 ≤ 1
    ·rw [if_pos c2]
    ·rw [if_neg c2]
     have : ¬ t.1 = 1 := by omega
     simp [this]
def andThen {X α β γ : Type} (f : X → Bool → α × X × Bool) (g : X → Bool → β × X × Bool) (mk : α → β → γ) (p : X) (b : Bool) : γ × X × Bool :=
 (mk (f p b).1 (g (f p b).2.1 (f p b).2.2).1, (g (f p b).2.1 (f p b).2.2).2)
theorem pair_then {l : List Int} {α β γ : Type} {f : Int → Bool → α × Int × Bool} {f' : Nat → Bool → α × Nat × Bool} {g : Int → Bool → β × Int × Bool} {g' : Nat → Bool → β × Nat × Bool} {sf : α → List Int} {sg : β → List Int} {s : γ → List Int} {mk : α → β → γ}
  (hf : Pair l f f' sf) (hg : Pair l g g' sg) (hs : ∀ a b, s (mk a b) = sf a ++ sg b) : Pair l (andThen f g mk) (andThen f' g' mk) s := by
 intro d p b j b' hJ
 obtain ⟨h1, h2⟩ := hf d p b j b' hJ
 obtain ⟨h3, h4⟩ := hg _ _ _ _ _ h1
 unfold andThen
 refine ⟨?_, fun h => ?_⟩
 ·rw [hs, ← List.append_assoc]; exact h3
 ·obtain ⟨q1, q2⟩ := h4 h
  obtain ⟨q3, q4⟩ := h2 q1
  exact ⟨q3, by rw [q2, q4]⟩
def iter {X α : Type} (f : X → Bool → α × X × Bool) : Nat → X → Bool → List α × X × Bool
 | 0, p, b => ([], p, b)
 | n + 1, p, b => ((f p b).1 :: (iter f n (f p b).2.1 (f p b).2.2).1, (iter f n (f p b).2.1 (f p b).2.2).2)
def iterE {X α : Type} (f : X → Bool → α × X × Bool) : Nat → X → Bool → List α × X × Bool
 | 0, p, b => ([], p, b)
 | n + 1, p, b => if b = true then ([], p, b) else ((f p b).1 :: (iterE f n (f p b).2.1 (f p b).2.2).1, (iterE f n (f p b).2.1 (f p b).2.2).2)
theorem iter_len {X α : Type} (f : X → Bool → α × X × Bool) : ∀ n p b, (iter f n p b).1.length = n
 | 0, p, b => rfl
 | n + 1, p, b => by simp only [iter, List.length_cons]; rw [iter_len f n]
theorem iterE_len {X α : Type} (f : X → Bool → α × X × Bool) : ∀ n p b, (iterE f n p b).1.length ≤ n
 | 0, p, b => Nat.le_refl _
 | n + 1, p, b => by
   simp only [iterE]
   split
   ·simp
   ·simp only [List.length_cons]; have := iterE_len f n (f p b).2.1 (f p b).2.2; omega
theorem iter_all {X α : Type} {q : α → Prop} (f : X → Bool → α × X × Bool) (h : ∀ p b, q (f p b).1) : ∀ n p b, ∀ x ∈ (iter f n p b).1, q x
 | 0, p, b, x, hx => by simp [iter] at hx
 | n + 1, p, b, x, hx => by
   simp only [iter, List.mem_cons] at hx
   rcases hx with rfl | hx
   ·exact h _ _
   ·exact iter_all f h n _ _ x hx
theorem pair_iter {l : List Int} {α : Type} {f : Int → Bool → α × Int × Bool} {g : Nat → Bool → α × Nat × Bool} {ser : α → List Int} (h : Pair l f g ser) : ∀ n, Pair l (iter f n) (iter g n) (fun xs => xs.flatMap ser)
 | 0 => fun d p b j b' hJ => ⟨by simpa [iter] using hJ, fun h => ⟨h, rfl⟩⟩
 | n + 1 => fun d p b j b' hJ => by
   obtain ⟨h1, h2⟩ := h d p b j b' hJ
   obtain ⟨h3, h4⟩ := pair_iter h n _ _ _ _ _ h1
   simp only [iter]
   refine ⟨?_, fun hx => ?_⟩
   ·rw [List.flatMap_cons, ← List.append_assoc]; exact h3
   ·obtain ⟨q1, q2⟩ := h4 hx
    obtain ⟨q3, q4⟩ := h2 q1
    exact ⟨q3, by rw [q2, q4]⟩
theorem pair_iterE {l : List Int} {α : Type} {f : Int → Bool → α × Int × Bool} {g : Nat → Bool → α × Nat × Bool} {ser : α → List Int} (h : Pair l f g ser) : ∀ n, Pair l (iter f n) (iterE g n) (fun xs => xs.flatMap ser)
 | 0 => fun d p b j b' hJ => ⟨by simpa [iter, iterE] using hJ, fun h => ⟨h, rfl⟩⟩
 | n + 1 => fun d p b j b' hJ => by
   by_cases hb : b' = true
   ·subst hb
    have hb : b = true := by
     rcases hJ.2.2 with ⟨_, hb⟩ | ⟨hb, _⟩
     ·exact hb
     ·cases hb
    subst hb
    obtain ⟨h3, _⟩ := pair_iter h (n + 1) d p true j true hJ
    have h5 : (iter g (n + 1) j true).2.2 = true := by
     cases hx : (iter g (n + 1) j true).2.2 with
     | true => rfl
     | false => have := (pair_iter h (n + 1) d p true j true hJ).2 hx; exact this.1.symm
    simp only [iterE, if_true]
    refine ⟨Jn.bad h3.1 h3.2.1 rfl ?_, fun h => by cases h⟩
    rcases h3.2.2 with ⟨_, h⟩ | ⟨h, _⟩
    ·exact h
    ·rw [h5] at h; cases h
   ·obtain ⟨h1, h2⟩ := h d p b j b' hJ
    obtain ⟨h3, h4⟩ := pair_iterE h n _ _ _ _ _ h1
    simp only [iter, iterE, if_neg hb]
    refine ⟨?_, fun hx => ?_⟩
    ·rw [List.flatMap_cons, ← List.append_assoc]; exact h3
    ·obtain ⟨q1, q2⟩ := h4 hx
     obtain ⟨q3, q4⟩ := h2 q1
     exact ⟨q3, by rw [q2, q4]⟩
theorem pair_two {l : List Int} {α ι : Type} {F : ι → Int → Bool → α × Int × Bool} {G : ι → Nat → Bool → α × Nat × Bool} {ser : α → List Int} (h : ∀ n, Pair l (F n) (G n) ser) {d : List Int} {p : Int} {b : Bool} {j : Nat} {b' : Bool} (hJ : Jn l d p b j b') {n n' : ι} (hn : b' = false → n = n') :
  Jn l (d ++ ser (G n' j b').1) (F n p b).2.1 (F n p b).2.2 (G n' j b').2.1 (G n' j b').2.2 ∧ ((G n' j b').2.2 = false → b' = false ∧ (F n p b).1 = (G n' j b').1) := by
 rcases Bool.eq_false_or_eq_true b' with hb | hb
 case inr => rw [hn hb]; exact h n' d p b j b' hJ
 case inl =>
  subst hb
  obtain ⟨q1, q2⟩ := h n d p b j true hJ
  obtain ⟨q3, q4⟩ := h n' d p b j true hJ
  have h5 : (G n' j true).2.2 = true := by
   cases hx : (G n' j true).2.2 with
   | true => rfl
   | false => exact (q4 hx).1.symm
  refine ⟨Jn.bad q1.1 q1.2.1 h5 ?_, fun h => by rw [h5] at h; cases h⟩
  rcases q1.2.2 with ⟨_, h⟩ | ⟨h, _⟩
  ·exact h
  ·have := (q2 h).1; cases this
end Go.Proofs.YtfhjipfkaemapaaGreat.Pu