/- How the arguments of the law FnExactReadCmd are read, and the law as a statement over numbers and lists alone. -/
import Derived.Test.YtomchkdbhcakoaaDoorMyOpen
import Derived.Test.YtomchkdbhcakoaaDoorMFnExactReadCmdx9
import Derived.KernelRfl
namespace Go.Proofs.YtomchkdbhcakoaaDoor.OpFnExactReadCmd
open Go.RowKit Go.Proofs.YtomchkdbhcakoaaDoor.MyOpen Go.Proofs.YtomchkdbhcakoaaDoor.MFnExactReadCmd Go.Proofs.YtomchkdbhcakoaaDoorW.PrintWords Go.Proofs.YtomchkdbhcakoaaDoorW.PrintLast
set_option linter.unusedVariables false

/-- An int of 64 bits. -/
def Rng (z : Int) : Prop := -9223372036854775808 ≤ z ∧ z ≤ 9223372036854775807
/-- The law, over numbers and lists alone. -/
def Pure : Prop := ∀ (y0 : ByteArray), y0.size ≤ 140737488351232 → ∃ k, laws_FnExactReadCmd.f k y0 = some true
end Go.Proofs.YtomchkdbhcakoaaDoor.OpFnExactReadCmd
