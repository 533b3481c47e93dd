/- How the arguments of the law FnExactOnward are read, and the law as a statement over numbers and lists alone. -/
import Derived.Test.YtfhjipfkaemapaaAvOpen
import Derived.Test.YtfhjipfkaemapaaV2
import Derived.KernelRfl
namespace Go.Proofs.Ytfhjipfkaemapaa.OpFnExactOnward
open Go Go.RowKit Go.Av Go.Proofs Go.Proofs.Ytfhjipfkaemapaa.V
set_option linter.unusedVariables false
def Ok23 (y : S23) : Prop := Rng y.f0 ∧ Rng y.f1 ∧ y.f2.size ≤ 140737488351232
theorem op23 : Opens Try.prog 23 3 e23 Ok23 :=
  op_struct (fun y : S23 => (y.f0, y.f1, y.f2)) Try.underlying23 (by kernel_rfl) (fun ⟨a0, a1, a2⟩ => ⟨⟨a0, a1, a2⟩, rfl⟩) (fun _ => rfl) (opFs_cons rfl (by kernel_rfl) (op_i64 Try.underlying3) (opFs_cons rfl (by kernel_rfl) (op_i64 Try.underlying3) (opFs_last rfl (by kernel_rfl) (op_string Try.underlying9))))
def Ok25 (y : S25) : Prop := Ok23 y.f0 ∧ Rng y.f1 ∧ Rng y.f2 ∧ Rng y.f3 ∧ Rng y.f4
theorem op25 : Opens Try.prog 25 7 e25 Ok25 :=
  op_struct (fun y : S25 => (y.f0, y.f1, y.f2, y.f3, y.f4)) Try.underlying25 (by kernel_rfl) (fun ⟨a0, a1, a2, a3, a4⟩ => ⟨⟨a0, a1, a2, a3, a4⟩, rfl⟩) (fun _ => rfl) (opFs_cons rfl (by kernel_rfl) op23 (opFs_cons rfl (by kernel_rfl) (op_i64 Try.underlying3) (opFs_cons rfl (by kernel_rfl) (op_i64 Try.underlying3) (opFs_cons rfl (by kernel_rfl) (op_i64 Try.underlying3) (opFs_last rfl (by kernel_rfl) (op_i64 Try.underlying3))))))
def Ok92 (y : S92) : Prop := Rng y.f0 ∧ Rng y.f1 ∧ Rng y.f2 ∧ True
theorem op92 : Opens Try.prog 92 4 e92 Ok92 :=
  op_struct (fun y : S92 => (y.f0, y.f1, y.f2, y.f3)) Try.underlying92 (by kernel_rfl) (fun ⟨a0, a1, a2, a3⟩ => ⟨⟨a0, a1, a2, a3⟩, rfl⟩) (fun _ => rfl) (opFs_cons rfl (by kernel_rfl) (op_i64 Try.underlying3) (opFs_cons rfl (by kernel_rfl) (op_i64 Try.underlying3) (opFs_cons rfl (by kernel_rfl) (op_i64 Try.underlying3) (opFs_last rfl (by kernel_rfl) (op_bool Try.underlying4)))))
def Ok29 (y : S29) : Prop := Rng y.f0 ∧ Rng y.f1 ∧ (y.f2.length * 8 ≤ 140737488351232 ∧ ∀ q ∈ y.f2, Rng q)
theorem op29 : Opens Try.prog 29 3 e29 Ok29 :=
  op_struct (fun y : S29 => (y.f0, y.f1, y.f2)) Try.underlying29 (by kernel_rfl) (fun ⟨a0, a1, a2⟩ => ⟨⟨a0, a1, a2⟩, rfl⟩) (fun _ => rfl) (opFs_cons rfl (by kernel_rfl) (op_i64 Try.underlying3) (opFs_cons rfl (by kernel_rfl) (op_i64 Try.underlying3) (opFs_last rfl (by kernel_rfl) (op_slice 0 8 Try.underlying27 (by kernel_rfl) (by decide) (by kernel_rfl) (op_i64 Try.underlying3)))))
def Ok110 (y : S110) : Prop := (y.f0.length * 8 ≤ 140737488351232 ∧ ∀ q ∈ y.f0, Rng q)
theorem op110 : Opens Try.prog 110 1 e110 Ok110 :=
  op_struct (fun y : S110 => y.f0) Try.underlying110 (by kernel_rfl) (fun a0 => ⟨⟨a0⟩, rfl⟩) (fun _ => rfl) (opFs_last rfl (by kernel_rfl) (op_slice 0 8 Try.underlying27 (by kernel_rfl) (by decide) (by kernel_rfl) (op_i64 Try.underlying3)))
def Ok32 (y : S32) : Prop := Rng y.f0 ∧ Rng y.f1 ∧ (y.f2.length * 24 ≤ 140737488351232 ∧ ∀ q ∈ y.f2, Ok110 q)
theorem op32 : Opens Try.prog 32 3 e32 Ok32 :=
  op_struct (fun y : S32 => (y.f0, y.f1, y.f2)) Try.underlying32 (by kernel_rfl) (fun ⟨a0, a1, a2⟩ => ⟨⟨a0, a1, a2⟩, rfl⟩) (fun _ => rfl) (opFs_cons rfl (by kernel_rfl) (op_i64 Try.underlying3) (opFs_cons rfl (by kernel_rfl) (op_i64 Try.underlying3) (opFs_last rfl (by kernel_rfl) (op_slice z110 24 Try.underlying30 (by kernel_rfl) (by decide) (by kernel_rfl) op110))))
def Ok95 (y : S95) : Prop := Rng y.f0 ∧ Rng y.f1 ∧ True
theorem op95 : Opens Try.prog 95 3 e95 Ok95 :=
  op_struct (fun y : S95 => (y.f0, y.f1, y.f2)) Try.underlying95 (by kernel_rfl) (fun ⟨a0, a1, a2⟩ => ⟨⟨a0, a1, a2⟩, rfl⟩) (fun _ => rfl) (opFs_cons rfl (by kernel_rfl) (op_i64 Try.underlying3) (opFs_cons rfl (by kernel_rfl) (op_i64 Try.underlying3) (opFs_last rfl (by kernel_rfl) (op_bool Try.underlying4))))
def Ok35 (y : S35) : Prop := Ok25 y.f0 ∧ (y.f1.length * 32 ≤ 140737488351232 ∧ ∀ q ∈ y.f1, Ok92 q) ∧ Ok29 y.f2 ∧ Rng y.f3 ∧ True ∧ Ok32 y.f5 ∧ (y.f6.length * 24 ≤ 140737488351232 ∧ ∀ q ∈ y.f6, Ok95 q) ∧ (y.f7.length * 8 ≤ 140737488351232 ∧ ∀ q ∈ y.f7, Rng q)
theorem op35 : Opens Try.prog 35 18 e35 Ok35 :=
  op_struct (fun y : S35 => (y.f0, y.f1, y.f2, y.f3, y.f4, y.f5, y.f6, y.f7)) Try.underlying35 (by kernel_rfl) (fun ⟨a0, a1, a2, a3, a4, a5, a6, a7⟩ => ⟨⟨a0, a1, a2, a3, a4, a5, a6, a7⟩, rfl⟩) (fun _ => rfl) (opFs_cons rfl (by kernel_rfl) op25 (opFs_cons rfl (by kernel_rfl) (op_slice z92 32 Try.underlying26 (by kernel_rfl) (by decide) (by kernel_rfl) op92) (opFs_cons rfl (by kernel_rfl) op29 (opFs_cons rfl (by kernel_rfl) (op_i64 Try.underlying3) (opFs_cons rfl (by kernel_rfl) (op_bool Try.underlying4) (opFs_cons rfl (by kernel_rfl) op32 (opFs_cons rfl (by kernel_rfl) (op_slice z95 24 Try.underlying33 (by kernel_rfl) (by decide) (by kernel_rfl) op95) (opFs_last rfl (by kernel_rfl) (op_slice 0 8 Try.underlying27 (by kernel_rfl) (by decide) (by kernel_rfl) (op_i64 Try.underlying3))))))))))
/-- The law, over numbers and lists alone. -/
def Pure : Prop := ∀ (y0 : S35), Ok35 y0 → ∃ k, laws_FnExactOnward.f k y0 = some true
end Go.Proofs.Ytfhjipfkaemapaa.OpFnExactOnward
