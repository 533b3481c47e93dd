/- The law FnExactYardNums over numbers and lists alone: it answers true for every input; no condition beside the bounds of the kinds. -/
import Derived.Test.YtoaknaceaghclaaGreatOpFnExactYardNums
import Derived.Test.YtoaknaceaghclaaGreatPuN
namespace Go.Proofs.YtoaknaceaghclaaGreat.Pure
open Go Go.Av Go.Proofs Go.Proofs.YtoaknaceaghclaaGreat.V Go.Proofs.YtoaknaceaghclaaGreat.Pu
set_option linter.unusedVariables false
set_option linter.unusedSimpArgs false
theorem FnExactYardNums : OpFnExactYardNums.Pure := by
  intro y ok
  obtain ⟨⟨⟨_, _, o1⟩, _⟩, ⟨o2, _⟩, ⟨_, _, o3, _⟩, _, _, ⟨_, _, o4, o5⟩, ⟨o6, _⟩, ⟨o7, _⟩⟩ := ok
  obtain ⟨K, hK⟩ : ∃ K : Nat, 5300000 ≤ K := ⟨5300000, Nat.le_refl _⟩
  refine ⟨K, ?_⟩
  obtain ⟨t, e1, h1⟩ := szYard y o1 o2 o3 o4 (fun x hx => (o5 x hx).1) o6 o7 K (by omega)
  unfold laws_FnExactYardNums.f
  rw [e1, Option.bind_some]
  by_cases h2 : t < 0
  · rw [if_pos h2]
  have hI := h1 (by omega)
  have hS := hI.out
  rw [if_neg h2, toYard hI K (by omega), Option.bind_some]
  obtain ⟨e2, e3, hl⟩ := nums_eq _ hS K (by omega)
  obtain ⟨r, e4, h4⟩ := markYard _ hS K (by omega)
  have e5 := markInts (numsR (cvYard y)) (by omega) 1 (by omega) K (by omega)
  have e6 := heldInts (numsR (cvYard y)).length (by omega) 1 (by omega) K (by omega)
  simp only [e2, e3, e4, e5, e6, Option.bind_some, if_true, eqYard _ hS K (by omega), eqInts _ (show (numsR (cvYard y)).length ≤ 1048576 by omega) K (by omega)]
  rw [if_neg (by omega), if_neg (by omega), if_neg (by omega)]
end Go.Proofs.YtoaknaceaghclaaGreat.Pure
