/- How the arguments of the law FnExactSetupOk are read, and the law as a statement over numbers and lists alone. -/
import Derived.Test.YtpkffapjplebgaaMyOpen
import Derived.Test.YtpkffapjplebgaaPFnExactSetupOkx2
import Derived.KernelRfl
namespace Go.Proofs.Ytpkffapjplebgaa.OpFnExactSetupOk
open Go.RowKit Go.Proofs.Ytpkffapjplebgaa.MyOpen Go.Proofs.Ytpkffapjplebgaa.PFnExactSetupOk Go.Proofs.YtpkffapjplebgaaW.PrintWords Go.Proofs.YtpkffapjplebgaaW.PrintLast
set_option linter.unusedVariables false

/-- An int of 64 bits. -/
def Rng (z : Int) : Prop := -9223372036854775808 ≤ z ∧ z ≤ 9223372036854775807
structure S46 where
  f0 : Int
  f1 : Int
  f2 : ByteArray
def k46 : Kd S46 := Kd.iso (Kd.pair (Kd.int .i64) (Kd.pair (Kd.int .i64) Kd.string)) (fun x : S46 => (x.f0, x.f1, x.f2))
def Ok46 (y : S46) : Prop := Rng y.f0 ∧ Rng y.f1 ∧ y.f2.size ≤ 140737488351232
theorem op46 : Opens Try.prog 46 k46 Ok46 :=
  (op_struct (fun y : S46 => (y.f0, y.f1, y.f2)) Try.underlying46 (by kernel_rfl) (fun ⟨a0, a1, a2⟩ => ⟨⟨a0, a1, a2⟩, rfl⟩) (opFs_cons rfl (by kernel_rfl) (op_i64 Try.underlying3) (opFs_cons rfl (by kernel_rfl) (op_i64 Try.underlying3) (opFs_last rfl (by kernel_rfl) (op_string Try.underlying9))))).imp fun _ h => h
structure S48 where
  f0 : S46
  f1 : Int
  f2 : Int
  f3 : Int
  f4 : Int
def k48 : Kd S48 := Kd.iso (Kd.pair k46 (Kd.pair (Kd.int .i64) (Kd.pair (Kd.int .i64) (Kd.pair (Kd.int .i64) (Kd.int .i64))))) (fun x : S48 => (x.f0, x.f1, x.f2, x.f3, x.f4))
def Ok48 (y : S48) : Prop := Ok46 y.f0 ∧ Rng y.f1 ∧ Rng y.f2 ∧ Rng y.f3 ∧ Rng y.f4
theorem op48 : Opens Try.prog 48 k48 Ok48 :=
  (op_struct (fun y : S48 => (y.f0, y.f1, y.f2, y.f3, y.f4)) Try.underlying48 (by kernel_rfl) (fun ⟨a0, a1, a2, a3, a4⟩ => ⟨⟨a0, a1, a2, a3, a4⟩, rfl⟩) (opFs_cons rfl (by kernel_rfl) op46 (opFs_cons rfl (by kernel_rfl) (op_i64 Try.underlying3) (opFs_cons rfl (by kernel_rfl) (op_i64 Try.underlying3) (opFs_cons rfl (by kernel_rfl) (op_i64 Try.underlying3) (opFs_last rfl (by kernel_rfl) (op_i64 Try.underlying3))))))).imp fun _ h => h
/-- The law, over numbers and lists alone. -/
def Pure : Prop := ∀ (y0 : S48), Ok48 y0 → ∃ k, laws_FnExactSetupOk.f k y0.f0.f0 y0.f0.f1 y0.f0.f2 y0.f1 y0.f2 y0.f3 y0.f4 = some true
end Go.Proofs.Ytpkffapjplebgaa.OpFnExactSetupOk
