/- The law FnExactYardOk over numbers and lists alone: it answers true for every input; no condition beside the bounds of the kinds. -/
import Derived.Test.YtnnppdjmhellcaaGreatOpFnExactYardOk
import Derived.Test.YtnnppdjmhellcaaGreatPuJ
namespace Go.Proofs.YtnnppdjmhellcaaGreat.Pure
open Go Go.Av Go.Proofs Go.Proofs.YtnnppdjmhellcaaGreat.V Go.Proofs.YtnnppdjmhellcaaGreat.Pu
set_option linter.unusedVariables false
set_option linter.unusedSimpArgs false
theorem FnExactYardOk : OpFnExactYardOk.Pure := by
  intro y ok
  obtain ⟨⟨⟨_, _, o1⟩, _⟩, ⟨o2, _⟩, ⟨_, _, o3, _⟩, _, _, ⟨_, _, o4, o5⟩, ⟨o6, _⟩, ⟨o7, _⟩⟩ := ok
  obtain ⟨K, hK⟩ : ∃ K : Nat, 5300000 ≤ K := ⟨5300000, Nat.le_refl _⟩
  refine ⟨K, ?_⟩
  obtain ⟨t, e1, h1⟩ := szYard y o1 o2 o3 o4 (fun x hx => (o5 x hx).1) o6 o7 K (by omega)
  unfold laws_FnExactYardOk.f
  rw [e1, Option.bind_some]
  by_cases h2 : t < 0
  · rw [if_pos h2]
  have hI := h1 (by omega)
  have hS := hI.out
  rw [if_neg h2, toYard hI K (by omega), Option.bind_some]
  obtain ⟨e2, e3, _⟩ := yard_eq _ hS K (by omega)
  simp only [e2, e3, Option.bind_some, beq_self_eq_true, if_true]
  rw [eqYard _ hS K (by omega), Option.bind_some, if_pos rfl]
end Go.Proofs.YtnnppdjmhellcaaGreat.Pure
