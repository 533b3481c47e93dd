/- How the arguments of the law FnExactReadScript are read, and the law as a statement over numbers and lists alone. -/
import Derived.Test.YtaddjeoncbmohaaDoorMyOpen
import Derived.Test.YtaddjeoncbmohaaDoorMFnExactReadScriptx16
import Derived.KernelRfl
namespace Go.Proofs.YtaddjeoncbmohaaDoor.OpFnExactReadScript
open Go.RowKit Go.Proofs.YtaddjeoncbmohaaDoor.MyOpen Go.Proofs.YtaddjeoncbmohaaDoor.MFnExactReadScript Go.Proofs.YtaddjeoncbmohaaDoorW.PrintWords Go.Proofs.YtaddjeoncbmohaaDoorW.PrintLast
set_option linter.unusedVariables false

/-- An int of 64 bits. -/
def Rng (z : Int) : Prop := -9223372036854775808 ≤ z ∧ z ≤ 9223372036854775807
/-- The law, over numbers and lists alone. -/
def Pure : Prop := ∀ (y0 : ByteArray), y0.size ≤ 140737488351232 → ∃ k, laws_FnExactReadScript.f k y0 = some true
end Go.Proofs.YtaddjeoncbmohaaDoor.OpFnExactReadScript
