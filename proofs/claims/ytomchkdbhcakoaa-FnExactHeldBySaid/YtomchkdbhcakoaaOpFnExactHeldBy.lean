/- How the arguments of the law FnExactHeldBy are read, and the law as a statement over numbers and lists alone. -/
import Derived.Test.YtomchkdbhcakoaaMyOpen
import Derived.Test.YtomchkdbhcakoaaMFnExactHeldByx7
import Derived.KernelRfl
namespace Go.Proofs.Ytomchkdbhcakoaa.OpFnExactHeldBy
open Go.RowKit Go.Proofs.Ytomchkdbhcakoaa.MyOpen Go.Proofs.Ytomchkdbhcakoaa.MFnExactHeldBy Go.Proofs.YtomchkdbhcakoaaW.PrintWords Go.Proofs.YtomchkdbhcakoaaW.PrintLast
set_option linter.unusedVariables false

/-- An int of 64 bits. -/
def Rng (z : Int) : Prop := -9223372036854775808 ≤ z ∧ z ≤ 9223372036854775807
def Ok117 (y : S117) : Prop := Rng y.f0 ∧ Rng y.f1 ∧ Rng y.f2 ∧ True
theorem op117 : Opens Try.prog 117 k117 Ok117 :=
  (op_struct (fun y : S117 => (y.f0, y.f1, y.f2, y.f3)) Try.underlying117 (by kernel_rfl) (fun ⟨a0, a1, a2, a3⟩ => ⟨⟨a0, a1, a2, a3⟩, rfl⟩) (opFs_cons rfl (by kernel_rfl) (op_i64 Try.underlying3) (opFs_cons rfl (by kernel_rfl) (op_i64 Try.underlying3) (opFs_cons rfl (by kernel_rfl) (op_i64 Try.underlying3) (opFs_last rfl (by kernel_rfl) (op_bool Try.underlying4)))))).imp fun _ h => h
/-- The law, over numbers and lists alone. -/
def Pure : Prop := ∀ (y0 : List (S117)) (y1 : Bool), (y0.length * 32 ≤ 140737488351232 ∧ ∀ q ∈ y0, Ok117 q) → ∃ k, laws_FnExactHeldBy.f k y0 y1 = some true
end Go.Proofs.Ytomchkdbhcakoaa.OpFnExactHeldBy
