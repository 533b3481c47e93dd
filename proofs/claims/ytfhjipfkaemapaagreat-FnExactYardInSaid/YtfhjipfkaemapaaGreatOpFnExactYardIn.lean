/- How the arguments of the law FnExactYardIn are read, and the law as a statement over numbers and lists alone. -/
import Derived.Test.YtfhjipfkaemapaaGreatAvOpen
import Derived.Test.YtfhjipfkaemapaaGreatV4
import Derived.KernelRfl
namespace Go.Proofs.YtfhjipfkaemapaaGreat.OpFnExactYardIn
open Go Go.RowKit Go.Av Go.Proofs Go.Proofs.YtfhjipfkaemapaaGreat.V
set_option linter.unusedVariables false
/-- The law, over numbers and lists alone. -/
def Pure : Prop := ∀ (y0 : List (Int)), (y0.length * 8 ≤ 140737488351232 ∧ ∀ q ∈ y0, Rng q) → ∃ k, laws_FnExactYardIn.f k y0 = some true
end Go.Proofs.YtfhjipfkaemapaaGreat.OpFnExactYardIn
