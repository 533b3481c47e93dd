/- How the arguments of the law FnExactNamesIn are read, and the law as a statement over numbers and lists alone. -/
import Derived.Test.YtfinjkjnoobbjaaXFnExactNamesInMyOpen
import Derived.Test.YtfinjkjnoobbjaaMFnExactNamesInx12
import Derived.KernelRfl
namespace Go.Proofs.Ytfinjkjnoobbjaa.OpFnExactNamesIn
open Go.RowKit Go.Proofs.Ytfinjkjnoobbjaa.MyOpen Go.Proofs.Ytfinjkjnoobbjaa.MFnExactNamesIn Go.Proofs.YtfinjkjnoobbjaaW.PrintWords Go.Proofs.YtfinjkjnoobbjaaW.PrintLast
set_option linter.unusedVariables false

/-- An int of 64 bits. -/
def Rng (z : Int) : Prop := -9223372036854775808 ≤ z ∧ z ≤ 9223372036854775807
def Ok125 (y : S125) : Prop := Rng y.f0 ∧ Rng y.f1 ∧ Rng y.f2
theorem op125 : Opens Try.prog 125 k125 Ok125 :=
  (op_struct (fun y : S125 => (y.f0, y.f1, y.f2)) Try.underlying125 (by kernel_rfl) (fun ⟨a0, a1, a2⟩ => ⟨⟨a0, a1, a2⟩, rfl⟩) (opFs_cons rfl (by kernel_rfl) (op_i64 Try.underlying3) (opFs_cons rfl (by kernel_rfl) (op_i64 Try.underlying3) (opFs_last rfl (by kernel_rfl) (op_i64 Try.underlying3))))).imp fun _ h => h
def Ok191 (y : S191) : Prop := Rng y.f0 ∧ Rng y.f1 ∧ Rng y.f2
theorem op191 : Opens Try.prog 191 k191 Ok191 :=
  (op_struct (fun y : S191 => (y.f0, y.f1, y.f2)) Try.underlying191 (by kernel_rfl) (fun ⟨a0, a1, a2⟩ => ⟨⟨a0, a1, a2⟩, rfl⟩) (opFs_cons rfl (by kernel_rfl) (op_i64 Try.underlying3) (opFs_cons rfl (by kernel_rfl) (op_i64 Try.underlying3) (opFs_last rfl (by kernel_rfl) (op_i64 Try.underlying3))))).imp fun _ h => h
def Ok118 (y : S118) : Prop := Rng y.f0 ∧ Rng y.f1 ∧ (y.f2.length * 24 ≤ 140737488351232 ∧ ∀ q ∈ y.f2, Ok191 q)
theorem op118 : Opens Try.prog 118 k118 Ok118 :=
  (op_struct (fun y : S118 => (y.f0, y.f1, y.f2)) Try.underlying118 (by kernel_rfl) (fun ⟨a0, a1, a2⟩ => ⟨⟨a0, a1, a2⟩, rfl⟩) (opFs_cons rfl (by kernel_rfl) (op_i64 Try.underlying3) (opFs_cons rfl (by kernel_rfl) (op_i64 Try.underlying3) (opFs_last rfl (by kernel_rfl) (op_slice 24 Try.underlying116 (by kernel_rfl) (by kernel_rfl) op191))))).imp fun _ h => h
/-- The law, over numbers and lists alone. -/
def Pure : Prop := ∀ (y0 : List (S125)) (y1 : List (S118)), (y0.length * 24 ≤ 140737488351232 ∧ ∀ q ∈ y0, Ok125 q) → (y1.length * 40 ≤ 140737488351232 ∧ ∀ q ∈ y1, Ok118 q) → ∃ k, laws_FnExactNamesIn.f k y0 y1 = some true
end Go.Proofs.Ytfinjkjnoobbjaa.OpFnExactNamesIn
