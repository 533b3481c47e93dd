/- The law FnExactYardIn over numbers and lists alone: it answers true for every input; no condition beside the bounds of the kinds. -/
import Derived.Test.YtfhjipfkaemapaaGreatOpFnExactYardIn
import Derived.Test.YtfhjipfkaemapaaGreatPuR
namespace Go.Proofs.YtfhjipfkaemapaaGreat.Pure
open Go Go.Av Go.Proofs Go.Proofs.YtfhjipfkaemapaaGreat.V Go.Proofs.YtfhjipfkaemapaaGreat.Pu
set_option linter.unusedVariables false
set_option linter.unusedSimpArgs false
theorem FnExactYardIn : OpFnExactYardIn.Pure := by
 intro l ok
 obtain ⟨K, hK⟩ : ∃ K : Nat, 6000000 ≤ K := ⟨6000000, Nat.le_refl _⟩
 refine ⟨K, ?_⟩
 unfold laws_FnExactYardIn.f
 by_cases h : 1048576 < (l.length : Int)
 ·rw [if_pos h]
 have hl : l.length ≤ 1048576 := by omega
 obtain ⟨y, b, e1, e2, hS⟩ := yardIn_eq l hl K hK
 obtain ⟨r, e3, h3, e4⟩ := markHeld y hS K (by omega) y.f0 y.f2.f0 y.f2.f1 y.f3 y.f4 y.f5.f0 y.f5.f1
 have e5 := markInts l hl 1 (by omega) K (by omega)
 have e6 := toInts l hl K (by omega)
 have e7 := eqInts l hl K (by omega)
 have e8 := eqYard y hS K (by omega)
 rw [if_neg h]
 obtain ⟨⟨⟨gw, gh, gc⟩, a1, a2, a3, a4⟩, rb, ⟨w1, w2, cn⟩, tk, ad, ⟨p1, p2, ws⟩, js, gs⟩ := y
 simp only [e6, e1, e2, e8, e7, e5, e3, e4, Option.bind_some, if_true, beq_self_eq_true]
 have h9 : ¬ r.1 < 0 := by omega
 rw [if_neg (show ¬ 1 + (l.length : Int) < 0 by omega)]
 simp only [if_neg h9]
end Go.Proofs.YtfhjipfkaemapaaGreat.Pure