/- Plain laws about what the functions compute: which teams of robots are right. -/
import Derived.Test.YtfhjipfkaemapaaGreatPuB
namespace Go.Proofs.YtfhjipfkaemapaaGreat.Pu
open Go Go.Av Go.Proofs Go.Proofs.YtfhjipfkaemapaaGreat.V
set_option linter.unusedVariables false
set_option linter.unusedSimpArgs false
def soloB (g : S24) (r : S51) : Bool := decide (0 ≤ r.f0 ∧ r.f0 ≤ 99) && (freeB g.f2 r.f1 && (decide (r.f2 = -1) || (aroundF g r.f1).contains r.f2))
def aloneB (g : S24) (xs : List S51) (i : Nat) : Bool := soloB g (rdD z51 xs (i : Int)) && (decide (i = 0) || decide ((rdD z51 xs ((i - 1 : Nat) : Int)).f0 < (rdD z51 xs (i : Int)).f0))
def holder (l : List S51) (c : Int) : Int := if c < 0 then -1 else match l.find? (fun r => decide (r.f1 = c) || decide (r.f2 = c)) with
 | some r => r.f0
 | none => -1
theorem specHolder (xs : List S51) (c : Int) (hb : xs.length ≤ 16777216) (k : Nat) (hk : xs.length < k) : spec_HolderOf.f k xs c = some (holder xs c) := by
 have go : ∀ (d i k : Nat), i + d = xs.length → d < k → spec_HolderOf.l0 k xs c (i : Int) = some (holder (xs.drop i) c) := by
  intro d
  induction d with
  | zero =>
    intro i k hi hk
    obtain ⟨k, rfl⟩ := ks hk
    rw [spec_HolderOf.l0, if_neg (by omega), List.drop_eq_nil_of_le (by omega)]
    unfold holder
    split <;> rfl
  | succ d ih =>
    intro i k hi hk
    obtain ⟨k, rfl⟩ := ks hk
    have hil : i < xs.length := by omega
    rw [spec_HolderOf.l0, if_pos (by omega), rdn z51 xs i hil, wn (by omega), ih (i + 1) k (by omega) (by omega), List.drop_eq_getElem_cons hil]
    unfold holder
    by_cases hc : 0 ≤ c
    ·rw [if_pos hc, if_pos (show (0 : Int) ≤ (i : Int) by omega), if_neg (show ¬ c < 0 by omega), if_neg (show ¬ c < 0 by omega), List.find?_cons]
     by_cases e1 : xs[i].f1 = c
     ·rw [if_pos e1, decide_eq_true e1]; rfl
     ·rw [if_neg e1, decide_eq_false e1]
      by_cases e2 : xs[i].f2 = c
      ·rw [if_pos e2, decide_eq_true e2]; rfl
      ·rw [if_neg e2, decide_eq_false e2]; rfl
    ·rw [if_neg hc, if_pos (by omega)]
 have := go xs.length 0 k (by omega) hk
 rwa [List.drop_zero] at this
def holdB (xs : List S51) (i : Nat) : Bool := !decide (0 ≤ holder (xs.take i) (rdD z51 xs (i : Int)).f1) && !decide (0 ≤ holder (xs.take i) (rdD z51 xs (i : Int)).f2)
def heldL (r : S51) : List Int := if r.f2 < 0 then [r.f1] else [r.f1, r.f2]
def Apart (q r : S51) : Prop := ∀ x ∈ heldL q, x ∉ heldL r
theorem solo_to {g : S24} (hg : gridB g = true) {r : S51} (h : soloB g r = true) : (0 ≤ r.f0 ∧ r.f0 ≤ 99) ∧ (0 ≤ r.f1 ∧ r.f1 < 64) ∧ (r.f2 = -1 ∨ (0 ≤ r.f2 ∧ r.f2 < 64 ∧ r.f2 ≠ r.f1)) := by
 have h4 := gridB_size hg
 unfold soloB at h
 simp only [Bool.and_eq_true, Bool.or_eq_true, decide_eq_true_eq] at h
 obtain ⟨h1, h2, h3⟩ := h
 have h5 := freeB_rng h2
 refine ⟨h1, by omega, h3.imp id fun hm => ?_⟩
 rw [List.contains_iff_mem] at hm
 unfold aroundF at hm
 rw [if_pos h2] at hm
 have h6 := aroundL_mem (gridB_iff hg).1.1 hm
 have h7 := freeB_rng h6.1
 exact ⟨by omega, by omega, h6.2⟩
theorem spec_tail (g : S24) (hg : gridB g = true) (xs : List S51) (hx : xs.length ≤ 10) (kq i : Nat) (hi : i < xs.length) (hk : 1200000 ≤ kq) (o : Option Bool) :
  ((spec_FreeAt.f kq g ((rdD z51 xs (i : Int)).f1)).bind fun t71 => if t71 = true then (if (rdD z51 xs (i : Int)).f2 = (-1) then (if (i : Int) ≤ (xs.length : Int) then ((spec_HolderOf.f kq ((xs.drop (0 : Int).toNat).take ((i : Int).toNat - (0 : Int).toNat)) ((rdD z51 xs (i : Int)).f1)).bind fun t72 => if 0 ≤ t72 then (some false) else ((spec_HolderOf.f kq ((xs.drop (0 : Int).toNat).take ((i : Int).toNat - (0 : Int).toNat)) ((rdD z51 xs (i : Int)).f2)).bind fun t73 => if 0 ≤ t73 then (some false) else o)) else none) else ((spec_Beside.f kq g ((rdD z51 xs (i : Int)).f1) ((rdD z51 xs (i : Int)).f2)).bind fun t93 => if t93 = true then (if (i : Int) ≤ (xs.length : Int) then ((spec_HolderOf.f kq ((xs.drop (0 : Int).toNat).take ((i : Int).toNat - (0 : Int).toNat)) ((rdD z51 xs (i : Int)).f1)).bind fun t94 => if 0 ≤ t94 then (some false) else ((spec_HolderOf.f kq ((xs.drop (0 : Int).toNat).take ((i : Int).toNat - (0 : Int).toNat)) ((rdD z51 xs (i : Int)).f2)).bind fun t95 => if 0 ≤ t95 then (some false) else o)) else none) else (some false))) else (some false)) =
  if ((freeB g.f2 (rdD z51 xs (i : Int)).f1 && (decide ((rdD z51 xs (i : Int)).f2 = -1) || (aroundF g (rdD z51 xs (i : Int)).f1).contains (rdD z51 xs (i : Int)).f2)) && holdB xs i) = true then o else some false := by
 have h4 := gridB_size hg
 have ht : ((xs.drop (0 : Int).toNat).take ((i : Int).toNat - (0 : Int).toNat)) = xs.take i := by simp
 rw [ht, specFree g _ (by omega) kq (by omega), hg, specBeside g hg _ _ kq (by omega), specHolder _ _ (by rw [List.length_take]; omega) kq (by rw [List.length_take]; omega), specHolder _ _ (by rw [List.length_take]; omega) kq (by rw [List.length_take]; omega), if_pos (show (i : Int) ≤ (xs.length : Int) by omega)]
 unfold holdB
 simp only [Option.bind_some, Bool.true_and]
 generalize rdD z51 xs (i : Int) = r
 generalize (aroundF g r.f1).contains r.f2 = B
 generalize holder (xs.take i) r.f1 = H1
 generalize holder (xs.take i) r.f2 = H2
 cases freeB g.f2 r.f1
 ·rfl
 ·by_cases e : r.f2 = -1
  ·by_cases e1 : 0 ≤ H1 <;> by_cases e2 : 0 ≤ H2 <;> simp [e, e1, e2]
  ·cases B <;> by_cases e1 : 0 ≤ H1 <;> by_cases e2 : 0 ≤ H2 <;> simp [e, e1, e2]
theorem spec_robots_l (g : S24) (hg : gridB g = true) (xs : List S51) (hx : xs.length ≤ 10) (k : Nat) (hk : 1300000 ≤ k) : spec_RobotsOk.l0 k xs g 0 = some ((List.range' 0 xs.length).all fun i => aloneB g xs i && holdB xs i) := by
 have hl := all_gen xs.length (by omega) (fun k v => spec_RobotsOk.l0 k xs g v) (fun i => aloneB g xs i && holdB xs i) 1200000 true
  (fun kq i hi hkq => by
    show spec_RobotsOk.l0 (kq + 1) xs g _ = _
    rw [spec_RobotsOk.l0, if_pos (by omega), if_pos (by omega), l01In_eq, Option.bind_some]
    rw [spec_tail g hg xs hx kq i hi hkq]
    unfold aloneB soloB
    by_cases h1 : 0 ≤ (rdD z51 xs (i : Int)).f0 ∧ (rdD z51 xs (i : Int)).f0 ≤ 99
    ·rw [if_pos (by simpa using h1), decide_eq_true h1, Bool.true_and]
     by_cases h2 : i = 0
     ·subst h2
      rw [if_neg (by omega)]
      simp
     ·have e1 : w64 ((i : Int) - 1) = ((i - 1 : Nat) : Int) := by rw [w64e (by omega) (by omega)]; omega
      rw [if_pos (by omega), e1, if_pos (by omega), if_pos (by omega)]
      by_cases h3 : (rdD z51 xs (i : Int)).f0 ≤ (rdD z51 xs ((i - 1 : Nat) : Int)).f0
      ·rw [if_pos h3, show decide ((rdD z51 xs ((i - 1 : Nat) : Int)).f0 < (rdD z51 xs (i : Int)).f0) = false from decide_eq_false (by omega), decide_eq_false h2]
       simp
      ·rw [if_neg h3, show decide ((rdD z51 xs ((i - 1 : Nat) : Int)).f0 < (rdD z51 xs (i : Int)).f0) = true from decide_eq_true (by omega)]
       simp
    ·rw [if_neg (by simpa using h1), decide_eq_false h1]
     simp)
  (fun kq _ => by show spec_RobotsOk.l0 (kq + 1) xs g _ = _; rw [spec_RobotsOk.l0, if_neg (by omega)]) xs.length 0 k (by omega) (by omega)
 rw [Bool.and_true] at hl
 exact hl
def goB : List S51 → List Int → Bool
 | [], _ => true
 | r :: t, s => if s.contains r.f1 = true then false else if r.f2 < 0 then goB t (r.f1 :: s) else if (r.f1 :: s).contains r.f2 = true then false else goB t (r.f2 :: r.f1 :: s)
theorem wf_of {v : Int} (h : 0 ≤ v ∧ v < 64) : (Lit.int .i64 v).wf = true := by
 simp only [Lit.wf, Bool.and_eq_true, decide_eq_true_eq]
 have h1 : IntKind.min .i64 = -9223372036854775808 := by decide
 have h2 : IntKind.max .i64 = 9223372036854775807 := by decide
 rw [h1, h2]
 omega
theorem apart_l (g : S24) (hg : gridB g = true) (xs : List S51) (hx : xs.length ≤ 10) (ha : ∀ r ∈ xs, soloB g r = true) : ∀ (d i k n : Nat) (s : List Int), i + d = xs.length → d * 5 + 10 ≤ k → n ≤ 2 * i → impl_areApart.l0 k xs n s (i : Int) = some (goB (xs.drop i) s) := by
 intro d
 induction d with
 | zero =>
   intro i k n s hi hk hn
   obtain ⟨k, rfl⟩ := ks (show 0 < k by omega)
   rw [impl_areApart.l0, if_neg (by omega), List.drop_eq_nil_of_le (by omega)]
   rfl
 | succ d ih =>
   intro i k n s hi hk hn
   obtain ⟨k, rfl⟩ : ∃ m, k = m + 4 + 1 := ⟨k - 5, by omega⟩
   have hil : i < xs.length := by omega
   have hr := solo_to hg (ha _ (List.getElem_mem hil))
   rw [impl_areApart.l0, if_pos (by omega), if_pos (by omega), rdn z51 xs i hil, List.drop_eq_getElem_cons hil, goB, wn (i := i) (by omega)]
   generalize hrr : xs[i] = r at hr ⊢
   have hmx : n + 2 < maxLen := by unfold maxLen; omega
   unfold impl_heldBy.f
   rcases hr.2.2 with h2 | ⟨h2, h3, h4⟩
   ·rw [if_pos (by omega), if_pos (show r.f2 < 0 by omega), Option.bind_some, show (0 : Int) = ((0 : Nat) : Int) from rfl, impl_areApart.l1, if_pos (by simp), if_pos (by omega), if_neg (by omega), rdn 0 [r.f1] 0 (by simp)]
    rw [show [r.f1][0] = r.f1 from rfl, if_pos (wf_of hr.2.1)]
    by_cases h5 : s.contains r.f1 = true
    ·rw [if_pos h5, if_pos h5]; rfl
    ·rw [if_neg h5, if_neg h5, if_pos (by omega), wn (i := 0) (by omega), impl_areApart.l1, if_neg (by simp), Option.bind_some]
     exact ih (i + 1) (k + 4) (n + 1) (r.f1 :: s) (by omega) (by omega) (by omega)
   ·rw [if_neg (by omega), if_neg (show ¬ r.f2 < 0 by omega), Option.bind_some, show (0 : Int) = ((0 : Nat) : Int) from rfl, impl_areApart.l1, if_pos (by simp), if_pos (by omega), if_neg (by omega), rdn 0 [r.f1, r.f2] 0 (by simp)]
    rw [show [r.f1, r.f2][0] = r.f1 from rfl, if_pos (wf_of hr.2.1)]
    by_cases h5 : s.contains r.f1 = true
    ·rw [if_pos h5, if_pos h5]; rfl
    ·rw [if_neg h5, if_neg h5, if_pos (by omega), wn (i := 0) (by omega), impl_areApart.l1, if_pos (by simp), if_pos (by omega), if_pos (by omega), rdn 0 [r.f1, r.f2] 1 (by simp)]
     rw [show [r.f1, r.f2][1] = r.f2 from rfl, rdn z51 xs i hil, hrr, if_neg h4, if_pos (wf_of ⟨h2, h3⟩)]
     by_cases h6 : (r.f1 :: s).contains r.f2 = true
     ·rw [if_pos h6, if_pos h6]; rfl
     ·rw [if_neg h6, if_neg h6, if_pos (by omega), wn (i := 1) (by omega), impl_areApart.l1, if_neg (by simp), Option.bind_some]
      exact ih (i + 1) (k + 4) (n + 1 + 1) (r.f2 :: r.f1 :: s) (by omega) (by omega) (by omega)
theorem goB_iff (g : S24) (hg : gridB g = true) : ∀ (l : List S51) (s : List Int), (∀ r ∈ l, soloB g r = true) → (goB l s = true ↔ (∀ r ∈ l, ∀ x ∈ heldL r, x ∉ s) ∧ l.Pairwise Apart) := by
 intro l
 induction l with
 | nil => intro s _; simp [goB]
 | cons r t ih =>
   intro s ha
   have hr := solo_to hg (ha r (by simp))
   have hi := fun s => ih s (fun q hq => ha q (by simp [hq]))
   rw [goB, List.pairwise_cons]
   have key : ∀ s' : List Int, (∀ x, x ∈ s' ↔ x ∈ heldL r ∨ x ∈ s) → ((∀ q ∈ t, ∀ x ∈ heldL q, x ∉ s') ↔ (∀ q ∈ t, ∀ x ∈ heldL q, x ∉ s) ∧ ∀ q ∈ t, Apart r q) := by
    intro s' hs'
    constructor
    ·intro h
     exact ⟨fun q hq x hx hm => h q hq x hx ((hs' x).2 (.inr hm)), fun q hq x hx hm => h q hq x hm ((hs' x).2 (.inl hx))⟩
    ·rintro ⟨h1, h2⟩ q hq x hx hm
     rcases (hs' x).1 hm with h | h
     ·exact h2 q hq x h hx
     ·exact h1 q hq x hx h
   rcases hr.2.2 with h2 | ⟨h2, h3, h4⟩
   ·have hh : heldL r = [r.f1] := by unfold heldL; rw [if_pos (by omega)]
    rw [if_pos (show r.f2 < 0 by omega)]
    by_cases h5 : s.contains r.f1 = true
    ·rw [if_pos h5]
     refine ⟨fun h => (by cases h), fun h => absurd ?_ (h.1 r (by simp) r.f1 (by rw [hh]; simp))⟩
     simpa using h5
    ·rw [if_neg h5, hi, key (r.f1 :: s) (fun x => by rw [hh]; simp)]
     have h6 : ∀ x ∈ heldL r, x ∉ s := by rw [hh]; intro x hx; simp at hx; subst hx; simpa using h5
     constructor
     ·rintro ⟨⟨a, b⟩, c⟩
      exact ⟨fun q hq => by rcases List.mem_cons.1 hq with rfl | hq; exact h6; exact a q hq, b, c⟩
     ·rintro ⟨a, b, c⟩
      exact ⟨⟨fun q hq => a q (by simp [hq]), b⟩, c⟩
   ·have hh : heldL r = [r.f1, r.f2] := by unfold heldL; rw [if_neg (by omega)]
    rw [if_neg (show ¬ r.f2 < 0 by omega)]
    by_cases h5 : s.contains r.f1 = true
    ·rw [if_pos h5]
     refine ⟨fun h => (by cases h), fun h => absurd ?_ (h.1 r (by simp) r.f1 (by rw [hh]; simp))⟩
     simpa using h5
    ·rw [if_neg h5]
     by_cases h7 : (r.f1 :: s).contains r.f2 = true
     ·rw [if_pos h7]
      refine ⟨fun h => (by cases h), fun h => absurd ?_ (h.1 r (by simp) r.f2 (by rw [hh]; simp))⟩
      simp only [List.contains_iff_mem, List.mem_cons] at h7
      rcases h7 with h7 | h7
      ·exact absurd h7 h4
      ·exact h7
     ·rw [if_neg h7, hi, key (r.f2 :: r.f1 :: s) (fun x => by rw [hh]; simp only [List.mem_cons, List.not_mem_nil, or_false]; exact ⟨fun h => by rcases h with h | h | h; exact .inl (.inr h); exact .inl (.inl h); exact .inr h, fun h => by rcases h with (h | h) | h; exact .inr (.inl h); exact .inl h; exact .inr (.inr h)⟩)]
      simp only [List.contains_iff_mem, List.mem_cons, not_or] at h7
      have h6 : ∀ x ∈ heldL r, x ∉ s := by
       rw [hh]; intro x hx; simp at hx
       rcases hx with rfl | rfl
       ·simpa using h5
       ·exact h7.2
      constructor
      ·rintro ⟨⟨a, b⟩, c⟩
       exact ⟨fun q hq => by rcases List.mem_cons.1 hq with rfl | hq; exact h6; exact a q hq, b, c⟩
      ·rintro ⟨a, b, c⟩
       exact ⟨⟨fun q hq => a q (by simp [hq]), b⟩, c⟩
theorem holder_iff (g : S24) (hg : gridB g = true) (l : List S51) (hl : ∀ r ∈ l, soloB g r = true) (c : Int) (hc : 0 ≤ c) : 0 ≤ holder l c ↔ ∃ q ∈ l, c ∈ heldL q := by
 unfold holder
 rw [if_neg (by omega)]
 cases hf : l.find? (fun r => decide (r.f1 = c) || decide (r.f2 = c)) with
 | none =>
   have h := List.find?_eq_none.1 hf
   refine ⟨fun h => by simp at h, fun ⟨q, hq, hm⟩ => ?_⟩
   have h1 := h q hq
   simp only [Bool.or_eq_true, decide_eq_true_eq, not_or] at h1
   unfold heldL at hm
   split at hm
   ·simp at hm; exact absurd hm.symm h1.1
   ·simp at hm; rcases hm with hm | hm; exact absurd hm.symm h1.1; exact absurd hm.symm h1.2
 | some q =>
   have h1 := List.mem_of_find?_eq_some hf
   have h2 := List.find?_some hf
   have h3 := solo_to hg (hl q h1)
   simp only [Bool.or_eq_true, decide_eq_true_eq] at h2
   refine ⟨fun _ => ⟨q, h1, ?_⟩, fun _ => h3.1.1⟩
   unfold heldL
   split
   ·rcases h2 with h2 | h2
    ·simp [h2]
    ·omega
   ·rcases h2 with h2 | h2 <;> simp [h2]
theorem holdB_iff (g : S24) (hg : gridB g = true) (xs : List S51) (ha : ∀ r ∈ xs, soloB g r = true) (i : Nat) (hi : i < xs.length) : holdB xs i = true ↔ ∀ q ∈ xs.take i, Apart q xs[i] := by
 have hr := solo_to hg (ha _ (List.getElem_mem hi))
 have ht : ∀ r ∈ xs.take i, soloB g r = true := fun r hr => ha r (List.mem_of_mem_take hr)
 unfold holdB
 rw [rdn z51 xs i hi, Bool.and_eq_true, Bool.not_eq_true', Bool.not_eq_true', decide_eq_false_iff_not, decide_eq_false_iff_not, holder_iff g hg _ ht _ hr.2.1.1]
 generalize xs[i] = r at hr ⊢
 rcases hr.2.2 with h2 | ⟨h2, h3, h4⟩
 ·have hh : heldL r = [r.f1] := by unfold heldL; rw [if_pos (by omega)]
  have h5 : holder (xs.take i) r.f2 = -1 := by unfold holder; rw [if_pos (by omega)]
  rw [h5]
  unfold Apart
  rw [hh]
  constructor
  ·rintro ⟨h, _⟩ q hq x hx hm
   simp at hm
   subst hm
   exact h ⟨q, hq, hx⟩
  ·intro h
   exact ⟨fun ⟨q, hq, hx⟩ => h q hq _ hx (by simp), by omega⟩
 ·have hh : heldL r = [r.f1, r.f2] := by unfold heldL; rw [if_neg (by omega)]
  rw [holder_iff g hg _ ht _ h2]
  unfold Apart
  rw [hh]
  constructor
  ·rintro ⟨ha, hb⟩ q hq x hx hm
   simp at hm
   rcases hm with rfl | rfl
   ·exact ha ⟨q, hq, hx⟩
   ·exact hb ⟨q, hq, hx⟩
  ·intro h
   exact ⟨fun ⟨q, hq, hx⟩ => h q hq _ hx (by simp), fun ⟨q, hq, hx⟩ => h q hq _ hx (by simp)⟩
theorem impl_tail (g : S24) (hg : gridB g = true) (xs : List S51) (kq i : Nat) (hk : 1200000 ≤ kq) (o : Option Bool) :
  ((impl_isFree.f g ((rdD z51 xs (i : Int)).f1)).bind fun t314 => if t314 = true then (if (rdD z51 xs (i : Int)).f2 = (-1) then o else ((impl_Beside.f kq g ((rdD z51 xs (i : Int)).f1) ((rdD z51 xs (i : Int)).f2)).bind fun t349 => if t349 = true then o else (some false))) else (some false)) =
  if (freeB g.f2 (rdD z51 xs (i : Int)).f1 && (decide ((rdD z51 xs (i : Int)).f2 = -1) || (aroundF g (rdD z51 xs (i : Int)).f1).contains (rdD z51 xs (i : Int)).f2)) = true then o else some false := by
 rw [implFree, implBeside g hg _ _ kq hk]
 simp only [Option.bind_some]
 generalize rdD z51 xs (i : Int) = r
 generalize (aroundF g r.f1).contains r.f2 = B
 cases freeB g.f2 r.f1
 ·rfl
 ·by_cases e : r.f2 = -1
  ·simp [e]
  ·cases B <;> simp [e]
def teamB (g : S24) (xs : List S51) : Bool := gridB g && (decide (xs.length ≤ 10) && (List.range' 0 xs.length).all fun i => aloneB g xs i && holdB xs i)
theorem teamB_solo {g : S24} {xs : List S51} (h : teamB g xs = true) : gridB g = true ∧ xs.length ≤ 10 ∧ ∀ r ∈ xs, soloB g r = true := by
 unfold teamB at h
 simp only [Bool.and_eq_true, decide_eq_true_eq, List.all_eq_true] at h
 refine ⟨h.1, h.2.1, fun r hr => ?_⟩
 obtain ⟨i, hi, rfl⟩ := List.getElem_of_mem hr
 have := (h.2.2 i (by simp [List.mem_range'_1]; omega)).1
 unfold aloneB at this
 rw [Bool.and_eq_true, rdn z51 xs i hi] at this
 exact this.1
theorem specTeam (g : S24) (hb : g.f2.size ≤ 1048576) (xs : List S51) (k : Nat) (hk : 1300000 ≤ k) : spec_RobotsOk.f k g xs = some (teamB g xs) := by
 unfold spec_RobotsOk.f teamB
 rw [specGrid g hb k (by omega), Option.bind_some]
 cases hg : gridB g
 ·rfl
 ·rw [if_pos rfl, Bool.true_and]
  by_cases hx : xs.length ≤ 10
  ·rw [if_neg (by omega), spec_robots_l g hg xs hx k hk, decide_eq_true hx, Bool.true_and]
  ·rw [if_pos (by omega), decide_eq_false hx, Bool.false_and]
theorem implTeam (g : S24) (hb : g.f2.size ≤ 1048576) (xs : List S51) (k : Nat) (hk : 1300000 ≤ k) : impl_RobotsOk.f k g xs = some (teamB g xs) := by
 unfold impl_RobotsOk.f teamB
 rw [implGrid g hb k (by omega), Option.bind_some]
 cases hg : gridB g
 ·rfl
 ·rw [if_pos rfl, Bool.true_and]
  by_cases hx : xs.length ≤ 10
  ·rw [if_neg (by omega), decide_eq_true hx, Bool.true_and]
   have step : ∀ kq i : Nat, i < xs.length → 1200000 ≤ kq → impl_RobotsOk.l0 (kq + 1) xs g (i : Int) = if aloneB g xs i = true then impl_RobotsOk.l0 kq xs g (w64 ((i : Int) + 1)) else some false := by
    intro kq i hi hkq
    rw [impl_RobotsOk.l0, if_pos (by omega), if_pos (by omega), impl_tail g hg xs kq i hkq]
    unfold aloneB soloB
    by_cases h1 : 0 ≤ (rdD z51 xs (i : Int)).f0 ∧ (rdD z51 xs (i : Int)).f0 ≤ 99
    ·rw [if_neg (show ¬ (rdD z51 xs (i : Int)).f0 < 0 by omega), if_neg (show ¬ 99 < (rdD z51 xs (i : Int)).f0 by omega), decide_eq_true h1, Bool.true_and]
     by_cases h2 : i = 0
     ·subst h2
      rw [if_neg (by omega)]
      simp
     ·have e1 : w64 ((i : Int) - 1) = ((i - 1 : Nat) : Int) := by rw [w64e (by omega) (by omega)]; omega
      rw [if_pos (by omega), e1, if_pos (by omega), if_pos (by omega)]
      by_cases h3 : (rdD z51 xs (i : Int)).f0 ≤ (rdD z51 xs ((i - 1 : Nat) : Int)).f0
      ·rw [if_pos h3, show decide ((rdD z51 xs ((i - 1 : Nat) : Int)).f0 < (rdD z51 xs (i : Int)).f0) = false from decide_eq_false (by omega), decide_eq_false h2]
       simp
      ·rw [if_neg h3, show decide ((rdD z51 xs ((i - 1 : Nat) : Int)).f0 < (rdD z51 xs (i : Int)).f0) = true from decide_eq_true (by omega)]
       simp
    ·rw [decide_eq_false h1]
     by_cases h2 : (rdD z51 xs (i : Int)).f0 < 0
     ·rw [if_pos h2]; simp
     ·rw [if_neg h2, if_pos (by omega)]; simp
   cases hall : (List.range' 0 xs.length).all (aloneB g xs)
   ·-- one is not right by itself
    have h0 : ((List.range' 0 xs.length).all fun i => aloneB g xs i && holdB xs i) = false := by
     rw [← Bool.not_eq_true] at hall ⊢
     intro h
     apply hall
     rw [List.all_eq_true] at h ⊢
     intro i hi
     have := h i hi
     rw [Bool.and_eq_true] at this
     exact this.1
    rw [h0]
    have go : ∀ d i k, i + d = xs.length → 1200000 + d < k → (List.range' i d).all (aloneB g xs) = false → impl_RobotsOk.l0 k xs g (i : Int) = some false := by
     intro d
     induction d with
     | zero => intro i k _ _ h; simp at h
     | succ d ih =>
       intro i k hi hk h
       obtain ⟨k, rfl⟩ := ks (show 0 < k by omega)
       rw [step k i (by omega) (by omega)]
       rw [List.range'_succ, List.all_cons] at h
       cases ha : aloneB g xs i
       ·rfl
       ·rw [ha, Bool.true_and] at h
        rw [if_pos rfl, wn (by omega)]
        exact ih (i + 1) k (by omega) (by omega) h
    exact go xs.length 0 k (by omega) (by omega) hall
   ·have ha : ∀ r ∈ xs, soloB g r = true := by
     intro r hr
     obtain ⟨i, hi, rfl⟩ := List.getElem_of_mem hr
     have := List.all_eq_true.1 hall i (by simp [List.mem_range'_1]; omega)
     unfold aloneB at this
     rw [Bool.and_eq_true, rdn z51 xs i hi] at this
     exact this.1
    have hl := all_gen xs.length (by omega) (fun k v => impl_RobotsOk.l0 k xs g v) (aloneB g xs) 1200000 (goB xs []) step
     (fun kq hkq => by
       show impl_RobotsOk.l0 (kq + 1) xs g _ = _
       rw [impl_RobotsOk.l0, if_neg (by omega)]
       unfold impl_areApart.f
       have := apart_l g hg xs hx ha xs.length 0 kq 0 [] (by omega) (by omega) (by omega)
       rw [List.drop_zero] at this
       rw [show (0 : Int) = ((0 : Nat) : Int) from rfl, this]
       rfl) xs.length 0 k (by omega) (by omega)
    rw [hall, Bool.true_and] at hl
    refine hl.trans (congrArg some ?_)
    rw [Bool.eq_iff_iff, goB_iff g hg xs [] ha, List.all_eq_true, List.pairwise_iff_getElem]
    constructor
    ·rintro ⟨_, hp⟩ i hi
     simp [List.mem_range'_1] at hi
     rw [Bool.and_eq_true]
     refine ⟨List.all_eq_true.1 hall i (by simp [List.mem_range'_1]; omega), (holdB_iff g hg xs ha i hi).2 fun q hq => ?_⟩
     obtain ⟨j, hj, rfl⟩ := List.getElem_of_mem hq
     rw [List.length_take] at hj
     rw [List.getElem_take]
     exact hp j i (by omega) hi (by omega)
    ·intro h
     refine ⟨by simp, fun i j hi hj hij => ?_⟩
     have h1 := h j (by simp [List.mem_range'_1]; omega)
     rw [Bool.and_eq_true] at h1
     have h2 := (holdB_iff g hg xs ha j hj).1 h1.2
     refine h2 xs[i] ?_
     rw [List.mem_iff_getElem]
     exact ⟨i, by rw [List.length_take]; omega, by rw [List.getElem_take]⟩
  ·rw [if_pos (by omega), decide_eq_false hx, Bool.false_and]
end Go.Proofs.YtfhjipfkaemapaaGreat.Pu