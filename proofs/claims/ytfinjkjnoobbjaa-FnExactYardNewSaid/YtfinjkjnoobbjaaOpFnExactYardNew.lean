/- How the arguments of the law FnExactYardNew are read, and the law as a statement over numbers and lists alone. -/
import Derived.Test.YtfinjkjnoobbjaaXFnExactYardNewMyOpen
import Derived.Test.YtfinjkjnoobbjaaMFnExactYardNewx12
import Derived.KernelRfl
namespace Go.Proofs.Ytfinjkjnoobbjaa.OpFnExactYardNew
open Go.RowKit Go.Proofs.Ytfinjkjnoobbjaa.MyOpen Go.Proofs.Ytfinjkjnoobbjaa.MFnExactYardNew Go.Proofs.YtfinjkjnoobbjaaW.PrintWords Go.Proofs.YtfinjkjnoobbjaaW.PrintLast
set_option linter.unusedVariables false

/-- An int of 64 bits. -/
def Rng (z : Int) : Prop := -9223372036854775808 ≤ z ∧ z ≤ 9223372036854775807
structure S23 where
  f0 : Int
  f1 : Int
  f2 : ByteArray
def k23 : Kd S23 := Kd.iso (Kd.pair (Kd.int .i64) (Kd.pair (Kd.int .i64) Kd.string)) (fun x : S23 => (x.f0, x.f1, x.f2))
def Ok23 (y : S23) : Prop := Rng y.f0 ∧ Rng y.f1 ∧ y.f2.size ≤ 140737488351232
theorem op23 : Opens Try.prog 23 k23 Ok23 :=
  (op_struct (fun y : S23 => (y.f0, y.f1, y.f2)) Try.underlying23 (by kernel_rfl) (fun ⟨a0, a1, a2⟩ => ⟨⟨a0, a1, a2⟩, rfl⟩) (opFs_cons rfl (by kernel_rfl) (op_i64 Try.underlying3) (opFs_cons rfl (by kernel_rfl) (op_i64 Try.underlying3) (opFs_last rfl (by kernel_rfl) (op_string Try.underlying9))))).imp fun _ h => h
structure S25 where
  f0 : S23
  f1 : Int
  f2 : Int
  f3 : Int
  f4 : Int
def k25 : Kd S25 := Kd.iso (Kd.pair k23 (Kd.pair (Kd.int .i64) (Kd.pair (Kd.int .i64) (Kd.pair (Kd.int .i64) (Kd.int .i64))))) (fun x : S25 => (x.f0, x.f1, x.f2, x.f3, x.f4))
def Ok25 (y : S25) : Prop := Ok23 y.f0 ∧ Rng y.f1 ∧ Rng y.f2 ∧ Rng y.f3 ∧ Rng y.f4
theorem op25 : Opens Try.prog 25 k25 Ok25 :=
  (op_struct (fun y : S25 => (y.f0, y.f1, y.f2, y.f3, y.f4)) Try.underlying25 (by kernel_rfl) (fun ⟨a0, a1, a2, a3, a4⟩ => ⟨⟨a0, a1, a2, a3, a4⟩, rfl⟩) (opFs_cons rfl (by kernel_rfl) op23 (opFs_cons rfl (by kernel_rfl) (op_i64 Try.underlying3) (opFs_cons rfl (by kernel_rfl) (op_i64 Try.underlying3) (opFs_cons rfl (by kernel_rfl) (op_i64 Try.underlying3) (opFs_last rfl (by kernel_rfl) (op_i64 Try.underlying3))))))).imp fun _ h => h
/-- The law, over numbers and lists alone. -/
def Pure : Prop := ∀ (y0 : S25), Ok25 y0 → ∃ k, laws_FnExactYardNew.f k y0.f0.f0 y0.f0.f1 y0.f0.f2 y0.f1 y0.f2 y0.f3 y0.f4 = some true
end Go.Proofs.Ytfinjkjnoobbjaa.OpFnExactYardNew
