/- The law FnExactMovesLeft over numbers and lists alone: it answers true for every input; no condition beside the bounds of the kinds. -/
import Derived.Test.YtnnppdjmhellcaaGreatOpFnExactMovesLeft
import Derived.Test.YtnnppdjmhellcaaGreatPuJ
namespace Go.Proofs.YtnnppdjmhellcaaGreat.Pure
open Go Go.Av Go.Proofs Go.Proofs.YtnnppdjmhellcaaGreat.V Go.Proofs.YtnnppdjmhellcaaGreat.Pu
set_option linter.unusedVariables false
set_option linter.unusedSimpArgs false
def leftN (y : S48) (i : Nat) : Nat := ((List.range' ((rdD z69 y.f6 (i : Int)).f1.toNat + 1) (y.f5.f0.toNat - (rdD z69 y.f6 (i : Int)).f1.toNat)).filter (mvB y.f5.f2 i)).length
def leftT (y : S48) : Nat → Nat
  | 0 => 0
  | i + 1 => leftT y i + leftN y i
theorem leftN_len (y : S48) (i : Nat) : leftN y i ≤ y.f5.f0.toNat := by
  unfold leftN
  have := List.length_filter_le (mvB y.f5.f2 i) (List.range' ((rdD z69 y.f6 (i : Int)).f1.toNat + 1) (y.f5.f0.toNat - (rdD z69 y.f6 (i : Int)).f1.toNat))
  rw [List.length_range'] at this
  omega
theorem leftT_len (y : S48) (i : Nat) : leftT y i ≤ y.f5.f0.toNat * i := by
  induction i with
  | zero => simp [leftT]
  | succ i ih =>
    have := leftN_len y i
    rw [leftT, Nat.mul_succ]
    omega
theorem movesLeft_eq (y : S48) (hS : Sized y) (k : Nat) (hk : 5300000 ≤ k) : ∃ b, spec_MovesLeft.f k y = some b ∧ impl_MovesLeft.f k y = some b := by
  have hj := hS.jobs
  unfold spec_MovesLeft.f impl_MovesLeft.f
  obtain ⟨_, e2, hF⟩ := yard_eq y hS k (by omega)
  rw [e2, Option.bind_some]
  by_cases hn : y.f6.length = 0
  · obtain ⟨k, rfl⟩ := ks (show 0 < k by omega)
    refine ⟨0, by rw [spec_MovesLeft.l0, if_neg (by omega)], ?_⟩
    cases yardB y
    · rfl
    · rw [if_pos rfl, impl_MovesLeft.l0, if_neg (by omega)]
  cases hb : yardB y
  · refine ⟨0, ?_, rfl⟩
    obtain ⟨k, rfl⟩ := ks (show 0 < k by omega)
    rw [spec_MovesLeft.l0, if_pos (by omega), (yard_eq y hS k (by omega)).1, hb]
    rfl
  have ha : y.f4 = true := by
    cases h : y.f4
    · exact absurd ((hF hb).2 h) hn
    · rfl
  have hJ := (hF hb).1 ha
  have hs := hJ.span
  have hL : Lev y.f5.f2 y.f5.f0 := ⟨by have := hJ.jobs; have := hJ.ways; omega, hJ.span, hJ.cells⟩
  have hjn := hJ.jobs
  have hjw := hJ.ways
  rw [if_pos rfl]
  have hd : ∀ i, i < y.f6.length → 0 ≤ (rdD z69 y.f6 (i : Int)).f1 ∧ (rdD z69 y.f6 (i : Int)).f1 ≤ y.f5.f0 := fun i hi => by rw [rdn z69 _ i hi]; exact hJ.done _ (List.getElem_mem hi)
  refine ⟨(leftT y y.f6.length : Int), ?_, ?_⟩
  · have go : ∀ (d i k : Nat), i + d = y.f6.length → d + 4000000 < k → spec_MovesLeft.l0 k y (leftT y i : Int) (i : Int) = some (leftT y y.f6.length : Int) := by
      intro d
      induction d with
      | zero =>
        intro i k hi hk
        obtain ⟨k, rfl⟩ := ks (show 0 < k by omega)
        obtain rfl : i = y.f6.length := by omega
        rw [spec_MovesLeft.l0, if_neg (by omega)]
      | succ d ih =>
        intro i k hi hk
        obtain ⟨k, rfl⟩ := ks (show 0 < k by omega)
        have hli := hL.len i (by omega)
        have hdi := hd i (by omega)
        have ht := leftT_len y i
        have ht2 : y.f5.f0.toNat * i ≤ 20 * 10 := Nat.mul_le_mul (by omega) (by omega)
        obtain ⟨u, hu⟩ : ∃ u : Nat, (rdD z69 y.f6 (i : Int)).f1 = (u : Int) := ⟨(rdD z69 y.f6 (i : Int)).f1.toNat, by omega⟩
        have h1 := count_from (u + 1) (y.f5.f0.toNat + 1) (by omega) (fun k m v => spec_MovesLeft.l1 k y (i : Int) m v) (mvB y.f5.f2 i) 0 (fun m => m)
          (fun kq m j hj0 hj _ => by
            show spec_MovesLeft.l1 (kq + 1) y (i : Int) _ _ = _
            have e1 : w64 ((j : Int) - 1) = ((j - 1 : Nat) : Int) := by rw [w64e (by omega) (by omega)]; omega
            rw [spec_MovesLeft.l1, if_pos (by omega), if_pos (by omega), e1, if_pos (by omega), if_pos (by omega)]
            unfold mvB cel
            by_cases h2 : rdD 0 (rdD z65 y.f5.f2 (i : Int)).f0 (j : Int) = rdD 0 (rdD z65 y.f5.f2 (i : Int)).f0 ((j - 1 : Nat) : Int)
            · rw [if_pos h2, decide_eq_true h2]; rfl
            · rw [if_neg h2, decide_eq_false h2]; rfl)
          (fun kq m _ => by show spec_MovesLeft.l1 (kq + 1) y (i : Int) _ _ = _; rw [spec_MovesLeft.l1, if_neg (by omega)]) (y.f5.f0.toNat - u) (u + 1) (leftT y i) k (by omega) (by omega) (by omega) (by omega) (by omega)
        have hT : leftT y i + ((List.range' (u + 1) (y.f5.f0.toNat - u)).filter (mvB y.f5.f2 i)).length = leftT y (i + 1) := by
          rw [leftT, leftN, hu, Int.toNat_natCast]
        rw [hT] at h1
        rw [spec_MovesLeft.l0, if_pos (by omega), (yard_eq y hS k (by omega)).1, hb, Option.bind_some, if_pos rfl, if_pos (by omega), if_pos (by omega), hu, wn (by omega), h1, Option.bind_some, wn (by omega)]
        exact ih (i + 1) k (by omega) (by omega)
    exact go y.f6.length 0 k (by omega) (by omega)
  · have go : ∀ (d i k : Nat), i + d = y.f6.length → d + 1000 < k → impl_MovesLeft.l0 k y (i : Int) (leftT y i : Int) = some (leftT y y.f6.length : Int) := by
      intro d
      induction d with
      | zero =>
        intro i k hi hk
        obtain ⟨k, rfl⟩ := ks (show 0 < k by omega)
        obtain rfl : i = y.f6.length := by omega
        rw [impl_MovesLeft.l0, if_neg (by omega)]
      | succ d ih =>
        intro i k hi hk
        obtain ⟨k, rfl⟩ := ks (show 0 < k by omega)
        have hli := hL.len i (by omega)
        have hdi := hd i (by omega)
        have ht := leftT_len y i
        have hm := leftN_len y i
        have ht2 : y.f5.f0.toNat * i ≤ 20 * 10 := Nat.mul_le_mul (by omega) (by omega)
        obtain ⟨u, hu⟩ : ∃ u : Nat, (rdD z69 y.f6 (i : Int)).f1 = (u : Int) := ⟨(rdD z69 y.f6 (i : Int)).f1.toNat, by omega⟩
        have h1 := count_from (u + 1) (y.f5.f0.toNat + 1) (by omega) (fun k m v => impl_movesAfter.l0 k (rdD z65 y.f5.f2 (i : Int)) m v) (mvB y.f5.f2 i) 0 (fun m => m)
          (fun kq m j hj0 hj _ => by
            show impl_movesAfter.l0 (kq + 1) _ _ _ = _
            have e1 : w64 ((j : Int) - 1) = ((j - 1 : Nat) : Int) := by rw [w64e (by omega) (by omega)]; omega
            rw [impl_movesAfter.l0, if_pos (by omega), if_pos (by omega), e1, if_pos (by omega), if_pos (by omega)]
            unfold mvB cel
            by_cases h2 : rdD 0 (rdD z65 y.f5.f2 (i : Int)).f0 (j : Int) = rdD 0 (rdD z65 y.f5.f2 (i : Int)).f0 ((j - 1 : Nat) : Int)
            · rw [if_pos h2, decide_eq_true h2]; rfl
            · rw [if_neg h2, decide_eq_false h2]; rfl)
          (fun kq m _ => by show impl_movesAfter.l0 (kq + 1) _ _ _ = _; rw [impl_movesAfter.l0, if_neg (by omega)]) (y.f5.f0.toNat - u) (u + 1) 0 k (by omega) (by omega) (by omega) (by omega) (by omega)
        have hT : 0 + ((List.range' (u + 1) (y.f5.f0.toNat - u)).filter (mvB y.f5.f2 i)).length = leftN y i := by
          rw [leftN, hu, Int.toNat_natCast, Nat.zero_add]
        rw [hT] at h1
        have e1 : w64 ((leftT y i : Int) + (leftN y i : Int)) = (leftT y (i + 1) : Int) := by rw [w64e (by omega) (by omega), leftT]; omega
        have hA : impl_movesAfter.f k (rdD z65 y.f5.f2 (i : Int)) (u : Int) = some (leftN y i : Int) := by
          unfold impl_movesAfter.f
          rw [if_neg (show ¬ (0 : Int) > (u : Int) by omega), wn (by omega)]
          exact h1
        rw [impl_MovesLeft.l0, if_pos (by omega), if_pos (by omega), if_pos (by omega), hu, hA, Option.bind_some, e1, wn (by omega)]
        exact ih (i + 1) k (by omega) (by omega)
    exact go y.f6.length 0 k (by omega) (by omega)
theorem FnExactMovesLeft : OpFnExactMovesLeft.Pure := by
  intro y ok
  obtain ⟨⟨⟨_, _, o1⟩, _⟩, ⟨o2, _⟩, ⟨_, _, o3, _⟩, _, _, ⟨_, _, o4, o5⟩, ⟨o6, _⟩, ⟨o7, _⟩⟩ := ok
  obtain ⟨K, hK⟩ : ∃ K : Nat, 5300000 ≤ K := ⟨5300000, Nat.le_refl _⟩
  refine ⟨K, ?_⟩
  obtain ⟨t, e1, h1⟩ := szYard y o1 o2 o3 o4 (fun x hx => (o5 x hx).1) o6 o7 K (by omega)
  unfold laws_FnExactMovesLeft.f
  rw [e1, Option.bind_some]
  by_cases h2 : t < 0
  · rw [if_pos h2]
  have hI := h1 (by omega)
  have hS := hI.out
  rw [if_neg h2, toYard hI K (by omega), Option.bind_some]
  obtain ⟨b, e2, e3⟩ := movesLeft_eq _ hS K (by omega)
  simp only [e2, e3, Option.bind_some, if_true]
  rw [eqYard _ hS K (by omega), Option.bind_some, if_pos rfl]
end Go.Proofs.YtnnppdjmhellcaaGreat.Pure
