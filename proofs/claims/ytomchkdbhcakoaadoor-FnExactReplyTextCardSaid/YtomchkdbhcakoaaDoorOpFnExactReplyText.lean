/- How the arguments of the law FnExactReplyText are read, and the law as a statement over numbers and lists alone. -/
import Derived.Test.YtomchkdbhcakoaaDoorMyOpen
import Derived.Test.YtomchkdbhcakoaaDoorMFnExactReplyTextx6
import Derived.KernelRfl
namespace Go.Proofs.YtomchkdbhcakoaaDoor.OpFnExactReplyText
open Go.RowKit Go.Proofs.YtomchkdbhcakoaaDoor.MyOpen Go.Proofs.YtomchkdbhcakoaaDoor.MFnExactReplyText Go.Proofs.YtomchkdbhcakoaaDoorW.PrintWords Go.Proofs.YtomchkdbhcakoaaDoorW.PrintLast
set_option linter.unusedVariables false

/-- An int of 64 bits. -/
def Rng (z : Int) : Prop := -9223372036854775808 ≤ z ∧ z ≤ 9223372036854775807
def Ok64 (y : S64) : Prop := Rng y.f0 ∧ Rng y.f1 ∧ Rng y.f2
theorem op64 : Opens Tryd.prog 64 k64 Ok64 :=
  (op_struct (fun y : S64 => (y.f0, y.f1, y.f2)) Tryd.underlying64 (by kernel_rfl) (fun ⟨a0, a1, a2⟩ => ⟨⟨a0, a1, a2⟩, rfl⟩) (opFs_cons rfl (by kernel_rfl) (op_i64 Tryd.underlying3) (opFs_cons rfl (by kernel_rfl) (op_i64 Tryd.underlying3) (opFs_last rfl (by kernel_rfl) (op_i64 Tryd.underlying3))))).imp fun _ h => h
structure S24 where
  f0 : Int
  f1 : Int
  f2 : List (S64)
def k24 : Kd S24 := Kd.iso (Kd.pair (Kd.int .i64) (Kd.pair (Kd.int .i64) (Kd.slice 64 k64))) (fun x : S24 => (x.f0, x.f1, x.f2))
def Ok24 (y : S24) : Prop := Rng y.f0 ∧ Rng y.f1 ∧ (y.f2.length * 24 ≤ 140737488351232 ∧ ∀ q ∈ y.f2, Ok64 q)
theorem op24 : Opens Tryd.prog 24 k24 Ok24 :=
  (op_struct (fun y : S24 => (y.f0, y.f1, y.f2)) Tryd.underlying24 (by kernel_rfl) (fun ⟨a0, a1, a2⟩ => ⟨⟨a0, a1, a2⟩, rfl⟩) (opFs_cons rfl (by kernel_rfl) (op_i64 Tryd.underlying3) (opFs_cons rfl (by kernel_rfl) (op_i64 Tryd.underlying3) (opFs_last rfl (by kernel_rfl) (op_slice 24 Tryd.underlying22 (by kernel_rfl) (by kernel_rfl) op64))))).imp fun _ h => h
/-- The law, over numbers and lists alone. -/
def Pure : Prop := ∀ (y0 : S24), Ok24 y0 → ∃ k, laws_FnExactReplyText.f k y0.f0 y0.f1 y0.f2 = some true
end Go.Proofs.YtomchkdbhcakoaaDoor.OpFnExactReplyText
