/- How the arguments of the law FnExactCmdText are read, and the law as a statement over numbers and lists alone. -/
import Derived.Test.YtpkffapjplebgaaDoorMyOpen
import Derived.Test.YtpkffapjplebgaaDoorMFnExactCmdTextx5
import Derived.KernelRfl
namespace Go.Proofs.YtpkffapjplebgaaDoor.OpFnExactCmdText
open Go.RowKit Go.Proofs.YtpkffapjplebgaaDoor.MyOpen Go.Proofs.YtpkffapjplebgaaDoor.MFnExactCmdText Go.Proofs.YtpkffapjplebgaaDoorW.PrintWords Go.Proofs.YtpkffapjplebgaaDoorW.PrintLast
set_option linter.unusedVariables false

/-- An int of 64 bits. -/
def Rng (z : Int) : Prop := -9223372036854775808 ≤ z ∧ z ≤ 9223372036854775807
structure S23 where
  f0 : Int
  f1 : Int
  f2 : Int
def k23 : Kd S23 := Kd.iso (Kd.pair (Kd.int .i64) (Kd.pair (Kd.int .i64) (Kd.int .i64))) (fun x : S23 => (x.f0, x.f1, x.f2))
def Ok23 (y : S23) : Prop := Rng y.f0 ∧ Rng y.f1 ∧ Rng y.f2
theorem op23 : Opens Tryd.prog 23 k23 Ok23 :=
  (op_struct (fun y : S23 => (y.f0, y.f1, y.f2)) Tryd.underlying23 (by kernel_rfl) (fun ⟨a0, a1, a2⟩ => ⟨⟨a0, a1, a2⟩, rfl⟩) (opFs_cons rfl (by kernel_rfl) (op_i64 Tryd.underlying3) (opFs_cons rfl (by kernel_rfl) (op_i64 Tryd.underlying3) (opFs_last rfl (by kernel_rfl) (op_i64 Tryd.underlying3))))).imp fun _ h => h
/-- The law, over numbers and lists alone. -/
def Pure : Prop := ∀ (y0 : S23), Ok23 y0 → ∃ k, laws_FnExactCmdText.f k y0.f0 y0.f1 y0.f2 = some true
end Go.Proofs.YtpkffapjplebgaaDoor.OpFnExactCmdText
