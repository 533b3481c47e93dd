/- How the arguments of the law FnExactDemandsIn are read, and the law as a statement over numbers and lists alone. -/
import Derived.Test.YtpkffapjplebgaaMyOpen
import Derived.Test.YtpkffapjplebgaaMFnExactDemandsInx4
import Derived.KernelRfl
namespace Go.Proofs.Ytpkffapjplebgaa.OpFnExactDemandsIn
open Go.RowKit Go.Proofs.Ytpkffapjplebgaa.MyOpen Go.Proofs.Ytpkffapjplebgaa.MFnExactDemandsIn Go.Proofs.YtpkffapjplebgaaW.PrintWords Go.Proofs.YtpkffapjplebgaaW.PrintLast
set_option linter.unusedVariables false

/-- An int of 64 bits. -/
def Rng (z : Int) : Prop := -9223372036854775808 ≤ z ∧ z ≤ 9223372036854775807
def Ok23 (y : S23) : Prop := Rng y.f0 ∧ Rng y.f1 ∧ Rng y.f2
theorem op23 : Opens Try.prog 23 k23 Ok23 :=
  (op_struct (fun y : S23 => (y.f0, y.f1, y.f2)) Try.underlying23 (by kernel_rfl) (fun ⟨a0, a1, a2⟩ => ⟨⟨a0, a1, a2⟩, rfl⟩) (opFs_cons rfl (by kernel_rfl) (op_i64 Try.underlying3) (opFs_cons rfl (by kernel_rfl) (op_i64 Try.underlying3) (opFs_last rfl (by kernel_rfl) (op_i64 Try.underlying3))))).imp fun _ h => h
/-- The law, over numbers and lists alone. -/
def Pure : Prop := ∀ (y0 : List (S23)) (y1 : Int) (y2 : Int), (y0.length * 24 ≤ 140737488351232 ∧ ∀ y ∈ y0, Ok23 y) → Rng y1 → Rng y2 → ∃ k, laws_FnExactDemandsIn.f k y0 y1 y2 = some true
end Go.Proofs.Ytpkffapjplebgaa.OpFnExactDemandsIn
