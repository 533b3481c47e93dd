/- How the arguments of the law FnExactNumsText are read, and the law as a statement over numbers and lists alone. -/
import Derived.Test.YtomchkdbhcakoaaDoorMyOpen
import Derived.Test.YtomchkdbhcakoaaDoorMFnExactNumsTextx4
import Derived.KernelRfl
namespace Go.Proofs.YtomchkdbhcakoaaDoor.OpFnExactNumsText
open Go.RowKit Go.Proofs.YtomchkdbhcakoaaDoor.MyOpen Go.Proofs.YtomchkdbhcakoaaDoor.MFnExactNumsText Go.Proofs.YtomchkdbhcakoaaDoorW.PrintWords Go.Proofs.YtomchkdbhcakoaaDoorW.PrintLast
set_option linter.unusedVariables false

/-- An int of 64 bits. -/
def Rng (z : Int) : Prop := -9223372036854775808 ≤ z ∧ z ≤ 9223372036854775807
/-- The law, over numbers and lists alone. -/
def Pure : Prop := ∀ (y0 : List (Int)), (y0.length * 8 ≤ 140737488351232 ∧ ∀ q ∈ y0, Rng q) → ∃ k, laws_FnExactNumsText.f k y0 = some true
end Go.Proofs.YtomchkdbhcakoaaDoor.OpFnExactNumsText
