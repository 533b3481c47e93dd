/- How the arguments of the law FnFrames are read, and the law as a statement over numbers and lists alone. -/
import Derived.Test.YtpkffapjplebgaaMyOpen
import Derived.Test.YtpkffapjplebgaaMFnFramesx6
import Derived.KernelRfl
namespace Go.Proofs.Ytpkffapjplebgaa.OpFnFrames
open Go.RowKit Go.Proofs.Ytpkffapjplebgaa.MyOpen Go.Proofs.Ytpkffapjplebgaa.MFnFrames Go.Proofs.YtpkffapjplebgaaW.PrintWords Go.Proofs.YtpkffapjplebgaaW.PrintLast
set_option linter.unusedVariables false

/-- An int of 64 bits. -/
def Rng (z : Int) : Prop := -9223372036854775808 ≤ z ∧ z ≤ 9223372036854775807
/-- The law, over numbers and lists alone. -/
def Pure : Prop := ∀ (y0 : List (Int)), (y0.length * 1 ≤ 140737488351232 ∧ ∀ q ∈ y0, (Lit.int .u8 q).wf = true) → ∃ k, laws_FnFrames.f k y0 = some true
end Go.Proofs.Ytpkffapjplebgaa.OpFnFrames
