/- How the arguments of the law FnExactYardNums are read, and the law as a statement over numbers and lists alone. -/
import Derived.Test.YtoaknaceaghclaaGreatAvOpen
import Derived.Test.YtoaknaceaghclaaGreatV5
import Derived.KernelRfl
namespace Go.Proofs.YtoaknaceaghclaaGreat.OpFnExactYardNums
open Go Go.RowKit Go.Av Go.Proofs Go.Proofs.YtoaknaceaghclaaGreat.V
set_option linter.unusedVariables false
def Ok23 (y : S23) : Prop := Rng y.f0 ∧ Rng y.f1 ∧ y.f2.size ≤ 140737488351232
theorem op23 : Opens Tryz.prog 23 3 e23 Ok23 :=
  op_struct (fun y : S23 => (y.f0, y.f1, y.f2)) Tryz.underlying23 (by kernel_rfl) (fun ⟨a0, a1, a2⟩ => ⟨⟨a0, a1, a2⟩, rfl⟩) (fun _ => rfl) (opFs_cons rfl (by kernel_rfl) (op_i64 Tryz.underlying3) (opFs_cons rfl (by kernel_rfl) (op_i64 Tryz.underlying3) (opFs_last rfl (by kernel_rfl) (op_string Tryz.underlying9))))
def Ok25 (y : S25) : Prop := Ok23 y.f0 ∧ Rng y.f1 ∧ Rng y.f2 ∧ Rng y.f3 ∧ Rng y.f4
theorem op25 : Opens Tryz.prog 25 7 e25 Ok25 :=
  op_struct (fun y : S25 => (y.f0, y.f1, y.f2, y.f3, y.f4)) Tryz.underlying25 (by kernel_rfl) (fun ⟨a0, a1, a2, a3, a4⟩ => ⟨⟨a0, a1, a2, a3, a4⟩, rfl⟩) (fun _ => rfl) (opFs_cons rfl (by kernel_rfl) op23 (opFs_cons rfl (by kernel_rfl) (op_i64 Tryz.underlying3) (opFs_cons rfl (by kernel_rfl) (op_i64 Tryz.underlying3) (opFs_cons rfl (by kernel_rfl) (op_i64 Tryz.underlying3) (opFs_last rfl (by kernel_rfl) (op_i64 Tryz.underlying3))))))
def Ok113 (y : S113) : Prop := Rng y.f0 ∧ Rng y.f1 ∧ Rng y.f2 ∧ True
theorem op113 : Opens Tryz.prog 113 4 e113 Ok113 :=
  op_struct (fun y : S113 => (y.f0, y.f1, y.f2, y.f3)) Tryz.underlying113 (by kernel_rfl) (fun ⟨a0, a1, a2, a3⟩ => ⟨⟨a0, a1, a2, a3⟩, rfl⟩) (fun _ => rfl) (opFs_cons rfl (by kernel_rfl) (op_i64 Tryz.underlying3) (opFs_cons rfl (by kernel_rfl) (op_i64 Tryz.underlying3) (opFs_cons rfl (by kernel_rfl) (op_i64 Tryz.underlying3) (opFs_last rfl (by kernel_rfl) (op_bool Tryz.underlying4)))))
def Ok29 (y : S29) : Prop := Rng y.f0 ∧ Rng y.f1 ∧ (y.f2.length * 8 ≤ 140737488351232 ∧ ∀ q ∈ y.f2, Rng q)
theorem op29 : Opens Tryz.prog 29 3 e29 Ok29 :=
  op_struct (fun y : S29 => (y.f0, y.f1, y.f2)) Tryz.underlying29 (by kernel_rfl) (fun ⟨a0, a1, a2⟩ => ⟨⟨a0, a1, a2⟩, rfl⟩) (fun _ => rfl) (opFs_cons rfl (by kernel_rfl) (op_i64 Tryz.underlying3) (opFs_cons rfl (by kernel_rfl) (op_i64 Tryz.underlying3) (opFs_last rfl (by kernel_rfl) (op_slice 0 8 Tryz.underlying27 (by kernel_rfl) (by decide) (by kernel_rfl) (op_i64 Tryz.underlying3)))))
def Ok147 (y : S147) : Prop := (y.f0.length * 8 ≤ 140737488351232 ∧ ∀ q ∈ y.f0, Rng q)
theorem op147 : Opens Tryz.prog 147 1 e147 Ok147 :=
  op_struct (fun y : S147 => y.f0) Tryz.underlying147 (by kernel_rfl) (fun a0 => ⟨⟨a0⟩, rfl⟩) (fun _ => rfl) (opFs_last rfl (by kernel_rfl) (op_slice 0 8 Tryz.underlying27 (by kernel_rfl) (by decide) (by kernel_rfl) (op_i64 Tryz.underlying3)))
def Ok32 (y : S32) : Prop := Rng y.f0 ∧ Rng y.f1 ∧ (y.f2.length * 24 ≤ 140737488351232 ∧ ∀ q ∈ y.f2, Ok147 q)
theorem op32 : Opens Tryz.prog 32 3 e32 Ok32 :=
  op_struct (fun y : S32 => (y.f0, y.f1, y.f2)) Tryz.underlying32 (by kernel_rfl) (fun ⟨a0, a1, a2⟩ => ⟨⟨a0, a1, a2⟩, rfl⟩) (fun _ => rfl) (opFs_cons rfl (by kernel_rfl) (op_i64 Tryz.underlying3) (opFs_cons rfl (by kernel_rfl) (op_i64 Tryz.underlying3) (opFs_last rfl (by kernel_rfl) (op_slice z147 24 Tryz.underlying30 (by kernel_rfl) (by decide) (by kernel_rfl) op147))))
def Ok116 (y : S116) : Prop := Rng y.f0 ∧ Rng y.f1 ∧ True
theorem op116 : Opens Tryz.prog 116 3 e116 Ok116 :=
  op_struct (fun y : S116 => (y.f0, y.f1, y.f2)) Tryz.underlying116 (by kernel_rfl) (fun ⟨a0, a1, a2⟩ => ⟨⟨a0, a1, a2⟩, rfl⟩) (fun _ => rfl) (opFs_cons rfl (by kernel_rfl) (op_i64 Tryz.underlying3) (opFs_cons rfl (by kernel_rfl) (op_i64 Tryz.underlying3) (opFs_last rfl (by kernel_rfl) (op_bool Tryz.underlying4))))
def Ok35 (y : S35) : Prop := Ok25 y.f0 ∧ (y.f1.length * 32 ≤ 140737488351232 ∧ ∀ q ∈ y.f1, Ok113 q) ∧ Ok29 y.f2 ∧ Rng y.f3 ∧ True ∧ Ok32 y.f5 ∧ (y.f6.length * 24 ≤ 140737488351232 ∧ ∀ q ∈ y.f6, Ok116 q) ∧ (y.f7.length * 8 ≤ 140737488351232 ∧ ∀ q ∈ y.f7, Rng q)
theorem op35 : Opens Tryz.prog 35 18 e35 Ok35 :=
  op_struct (fun y : S35 => (y.f0, y.f1, y.f2, y.f3, y.f4, y.f5, y.f6, y.f7)) Tryz.underlying35 (by kernel_rfl) (fun ⟨a0, a1, a2, a3, a4, a5, a6, a7⟩ => ⟨⟨a0, a1, a2, a3, a4, a5, a6, a7⟩, rfl⟩) (fun _ => rfl) (opFs_cons rfl (by kernel_rfl) op25 (opFs_cons rfl (by kernel_rfl) (op_slice z113 32 Tryz.underlying26 (by kernel_rfl) (by decide) (by kernel_rfl) op113) (opFs_cons rfl (by kernel_rfl) op29 (opFs_cons rfl (by kernel_rfl) (op_i64 Tryz.underlying3) (opFs_cons rfl (by kernel_rfl) (op_bool Tryz.underlying4) (opFs_cons rfl (by kernel_rfl) op32 (opFs_cons rfl (by kernel_rfl) (op_slice z116 24 Tryz.underlying33 (by kernel_rfl) (by decide) (by kernel_rfl) op116) (opFs_last rfl (by kernel_rfl) (op_slice 0 8 Tryz.underlying27 (by kernel_rfl) (by decide) (by kernel_rfl) (op_i64 Tryz.underlying3))))))))))
/-- The law, over numbers and lists alone. -/
def Pure : Prop := ∀ (y0 : S35), Ok35 y0 → ∃ k, laws_FnExactYardNums.f k y0 = some true
end Go.Proofs.YtoaknaceaghclaaGreat.OpFnExactYardNums
