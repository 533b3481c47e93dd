/- The law FnExactAllIn over numbers and lists alone: it answers true for every input; no condition beside the bounds of the kinds. -/
import Derived.Test.YtnnppdjmhellcaaGreatOpFnExactAllIn
import Derived.Test.YtnnppdjmhellcaaGreatPuJ
namespace Go.Proofs.YtnnppdjmhellcaaGreat.Pure
open Go Go.Av Go.Proofs Go.Proofs.YtnnppdjmhellcaaGreat.V Go.Proofs.YtnnppdjmhellcaaGreat.Pu
set_option linter.unusedVariables false
set_option linter.unusedSimpArgs false
theorem allIn_eq (y : S48) (hS : Sized y) (k : Nat) (hk : 5300000 ≤ k) : ∃ b, spec_AllIn.f k y = some b ∧ impl_AllIn.f k y = some b := by
  have hj := hS.jobs
  unfold impl_AllIn.f slices_ContainsFunc_impl_Job_impl_Job_.f slices_IndexFunc_impl_Job_impl_Job_.f spec_AllIn.f
  rw [(yard_eq y hS k (by omega)).2.1, Option.bind_some, index_gen z69 slices_IndexFunc_impl_Job_impl_Job_.l0 (fun _ _ _ _ => rfl) y.f6 (fun x => impl_AllIn_1.f x) (fun j => j.f2) (fun x _ => rfl) (by omega) k (by omega), Option.bind_some, fidx_any, Option.bind_some]
  have hl := all_gen y.f6.length (by omega) (fun k v => spec_AllIn.l0 k y v) (fun i => !(rdD z69 y.f6 (i : Nat)).f2) 4000000 (yardB y)
    (fun kq i hi _ => by
      show spec_AllIn.l0 (kq + 1) y _ = _
      rw [spec_AllIn.l0, if_pos (by omega), if_pos (by omega)]
      cases (rdD z69 y.f6 (i : Int)).f2 <;> rfl)
    (fun kq hkq => by
      show spec_AllIn.l0 (kq + 1) y _ = _
      rw [spec_AllIn.l0, if_neg (by omega), (yard_eq y hS kq (by omega)).1]
      rfl) y.f6.length 0 k (by omega) (by omega)
  rw [range_all y.f6 (fun j => !j.f2) _ (fun i hi => by rw [rdn z69 _ i hi])] at hl
  refine ⟨_, hl, ?_⟩
  cases yardB y
  · simp
  · rw [if_pos rfl, Bool.and_true, List.not_any_eq_all_not]
theorem FnExactAllIn : OpFnExactAllIn.Pure := by
  intro y ok
  obtain ⟨⟨⟨_, _, o1⟩, _⟩, ⟨o2, _⟩, ⟨_, _, o3, _⟩, _, _, ⟨_, _, o4, o5⟩, ⟨o6, _⟩, ⟨o7, _⟩⟩ := ok
  obtain ⟨K, hK⟩ : ∃ K : Nat, 5300000 ≤ K := ⟨5300000, Nat.le_refl _⟩
  refine ⟨K, ?_⟩
  obtain ⟨t, e1, h1⟩ := szYard y o1 o2 o3 o4 (fun x hx => (o5 x hx).1) o6 o7 K (by omega)
  unfold laws_FnExactAllIn.f
  rw [e1, Option.bind_some]
  by_cases h2 : t < 0
  · rw [if_pos h2]
  have hI := h1 (by omega)
  have hS := hI.out
  rw [if_neg h2, toYard hI K (by omega), Option.bind_some]
  obtain ⟨b, e2, e3⟩ := allIn_eq _ hS K (by omega)
  simp only [e2, e3, Option.bind_some, beq_self_eq_true, if_true]
  rw [eqYard _ hS K (by omega), Option.bind_some, if_pos rfl]
end Go.Proofs.YtnnppdjmhellcaaGreat.Pure
