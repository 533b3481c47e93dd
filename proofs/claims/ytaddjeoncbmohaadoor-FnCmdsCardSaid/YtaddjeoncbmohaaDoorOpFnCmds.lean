/- How the arguments of the law FnCmds are read, and the law as a statement over numbers and lists alone. -/
import Derived.Test.YtaddjeoncbmohaaDoorMyOpen
import Derived.Test.YtaddjeoncbmohaaDoorMFnCmdsx12
import Derived.KernelRfl
namespace Go.Proofs.YtaddjeoncbmohaaDoor.OpFnCmds
open Go.RowKit Go.Proofs.YtaddjeoncbmohaaDoor.MyOpen Go.Proofs.YtaddjeoncbmohaaDoor.MFnCmds Go.Proofs.YtaddjeoncbmohaaDoorW.PrintWords Go.Proofs.YtaddjeoncbmohaaDoorW.PrintLast
set_option linter.unusedVariables false

/-- An int of 64 bits. -/
def Rng (z : Int) : Prop := -9223372036854775808 ≤ z ∧ z ≤ 9223372036854775807
/-- The law, over numbers and lists alone. -/
def Pure : Prop := ∀ (y0 : List (Int)), (y0.length * 1 ≤ 140737488351232 ∧ ∀ q ∈ y0, (Lit.int .u8 q).wf = true) → ∃ k, laws_FnCmds.f k y0 = some true
end Go.Proofs.YtaddjeoncbmohaaDoor.OpFnCmds
