/- How the arguments of the law FnExactSafeYard are read, and the law as a statement over numbers and lists alone. -/
import Derived.Test.YtfinjkjnoobbjaaXFnExactSafeYardMyOpen
import Derived.Test.YtfinjkjnoobbjaaMFnExactSafeYardx21
import Derived.KernelRfl
namespace Go.Proofs.Ytfinjkjnoobbjaa.OpFnExactSafeYard
open Go.RowKit Go.Proofs.Ytfinjkjnoobbjaa.MyOpen Go.Proofs.Ytfinjkjnoobbjaa.MFnExactSafeYard Go.Proofs.YtfinjkjnoobbjaaW.PrintWords Go.Proofs.YtfinjkjnoobbjaaW.PrintLast
set_option linter.unusedVariables false

/-- An int of 64 bits. -/
def Rng (z : Int) : Prop := -9223372036854775808 ≤ z ∧ z ≤ 9223372036854775807
structure S23 where
  f0 : Int
  f1 : Int
  f2 : ByteArray
def k23 : Kd S23 := Kd.iso (Kd.pair (Kd.int .i64) (Kd.pair (Kd.int .i64) Kd.string)) (fun x : S23 => (x.f0, x.f1, x.f2))
def Ok23 (y : S23) : Prop := Rng y.f0 ∧ Rng y.f1 ∧ y.f2.size ≤ 140737488351232
theorem op23 : Opens Try.prog 23 k23 Ok23 :=
  (op_struct (fun y : S23 => (y.f0, y.f1, y.f2)) Try.underlying23 (by kernel_rfl) (fun ⟨a0, a1, a2⟩ => ⟨⟨a0, a1, a2⟩, rfl⟩) (opFs_cons rfl (by kernel_rfl) (op_i64 Try.underlying3) (opFs_cons rfl (by kernel_rfl) (op_i64 Try.underlying3) (opFs_last rfl (by kernel_rfl) (op_string Try.underlying9))))).imp fun _ h => h
structure S25 where
  f0 : S23
  f1 : Int
  f2 : Int
  f3 : Int
  f4 : Int
def k25 : Kd S25 := Kd.iso (Kd.pair k23 (Kd.pair (Kd.int .i64) (Kd.pair (Kd.int .i64) (Kd.pair (Kd.int .i64) (Kd.int .i64))))) (fun x : S25 => (x.f0, x.f1, x.f2, x.f3, x.f4))
def Ok25 (y : S25) : Prop := Ok23 y.f0 ∧ Rng y.f1 ∧ Rng y.f2 ∧ Rng y.f3 ∧ Rng y.f4
theorem op25 : Opens Try.prog 25 k25 Ok25 :=
  (op_struct (fun y : S25 => (y.f0, y.f1, y.f2, y.f3, y.f4)) Try.underlying25 (by kernel_rfl) (fun ⟨a0, a1, a2, a3, a4⟩ => ⟨⟨a0, a1, a2, a3, a4⟩, rfl⟩) (opFs_cons rfl (by kernel_rfl) op23 (opFs_cons rfl (by kernel_rfl) (op_i64 Try.underlying3) (opFs_cons rfl (by kernel_rfl) (op_i64 Try.underlying3) (opFs_cons rfl (by kernel_rfl) (op_i64 Try.underlying3) (opFs_last rfl (by kernel_rfl) (op_i64 Try.underlying3))))))).imp fun _ h => h
def Ok153 (y : S153) : Prop := Rng y.f0 ∧ Rng y.f1 ∧ Rng y.f2 ∧ True
theorem op153 : Opens Try.prog 153 k153 Ok153 :=
  (op_struct (fun y : S153 => (y.f0, y.f1, y.f2, y.f3)) Try.underlying153 (by kernel_rfl) (fun ⟨a0, a1, a2, a3⟩ => ⟨⟨a0, a1, a2, a3⟩, rfl⟩) (opFs_cons rfl (by kernel_rfl) (op_i64 Try.underlying3) (opFs_cons rfl (by kernel_rfl) (op_i64 Try.underlying3) (opFs_cons rfl (by kernel_rfl) (op_i64 Try.underlying3) (opFs_last rfl (by kernel_rfl) (op_bool Try.underlying4)))))).imp fun _ h => h
structure S47 where
  f0 : Int
  f1 : Int
  f2 : List (Int)
def k47 : Kd S47 := Kd.iso (Kd.pair (Kd.int .i64) (Kd.pair (Kd.int .i64) (Kd.slice 3 (Kd.int .i64)))) (fun x : S47 => (x.f0, x.f1, x.f2))
def Ok47 (y : S47) : Prop := Rng y.f0 ∧ Rng y.f1 ∧ (y.f2.length * 8 ≤ 140737488351232 ∧ ∀ q ∈ y.f2, Rng q)
theorem op47 : Opens Try.prog 47 k47 Ok47 :=
  (op_struct (fun y : S47 => (y.f0, y.f1, y.f2)) Try.underlying47 (by kernel_rfl) (fun ⟨a0, a1, a2⟩ => ⟨⟨a0, a1, a2⟩, rfl⟩) (opFs_cons rfl (by kernel_rfl) (op_i64 Try.underlying3) (opFs_cons rfl (by kernel_rfl) (op_i64 Try.underlying3) (opFs_last rfl (by kernel_rfl) (op_slice 8 Try.underlying31 (by kernel_rfl) (by kernel_rfl) (op_i64 Try.underlying3)))))).imp fun _ h => h
def Ok185 (y : S185) : Prop := (y.f0.length * 8 ≤ 140737488351232 ∧ ∀ q ∈ y.f0, Rng q)
theorem op185 : Opens Try.prog 185 k185 Ok185 :=
  (op_struct (fun y : S185 => y.f0) Try.underlying185 (by kernel_rfl) (fun a0 => ⟨⟨a0⟩, rfl⟩) (opFs_last rfl (by kernel_rfl) (op_slice 8 Try.underlying31 (by kernel_rfl) (by kernel_rfl) (op_i64 Try.underlying3)))).imp fun _ h => h
structure S50 where
  f0 : Int
  f1 : Int
  f2 : List (S185)
def k50 : Kd S50 := Kd.iso (Kd.pair (Kd.int .i64) (Kd.pair (Kd.int .i64) (Kd.slice 185 k185))) (fun x : S50 => (x.f0, x.f1, x.f2))
def Ok50 (y : S50) : Prop := Rng y.f0 ∧ Rng y.f1 ∧ (y.f2.length * 24 ≤ 140737488351232 ∧ ∀ q ∈ y.f2, Ok185 q)
theorem op50 : Opens Try.prog 50 k50 Ok50 :=
  (op_struct (fun y : S50 => (y.f0, y.f1, y.f2)) Try.underlying50 (by kernel_rfl) (fun ⟨a0, a1, a2⟩ => ⟨⟨a0, a1, a2⟩, rfl⟩) (opFs_cons rfl (by kernel_rfl) (op_i64 Try.underlying3) (opFs_cons rfl (by kernel_rfl) (op_i64 Try.underlying3) (opFs_last rfl (by kernel_rfl) (op_slice 24 Try.underlying48 (by kernel_rfl) (by kernel_rfl) op185))))).imp fun _ h => h
def Ok156 (y : S156) : Prop := Rng y.f0 ∧ Rng y.f1 ∧ True
theorem op156 : Opens Try.prog 156 k156 Ok156 :=
  (op_struct (fun y : S156 => (y.f0, y.f1, y.f2)) Try.underlying156 (by kernel_rfl) (fun ⟨a0, a1, a2⟩ => ⟨⟨a0, a1, a2⟩, rfl⟩) (opFs_cons rfl (by kernel_rfl) (op_i64 Try.underlying3) (opFs_cons rfl (by kernel_rfl) (op_i64 Try.underlying3) (opFs_last rfl (by kernel_rfl) (op_bool Try.underlying4))))).imp fun _ h => h
structure S53 where
  f0 : S25
  f1 : List (S153)
  f2 : S47
  f3 : Int
  f4 : Bool
  f5 : S50
  f6 : List (S156)
  f7 : List (Int)
def k53 : Kd S53 := Kd.iso (Kd.pair k25 (Kd.pair (Kd.slice 153 k153) (Kd.pair k47 (Kd.pair (Kd.int .i64) (Kd.pair Kd.bool (Kd.pair k50 (Kd.pair (Kd.slice 156 k156) (Kd.slice 3 (Kd.int .i64))))))))) (fun x : S53 => (x.f0, x.f1, x.f2, x.f3, x.f4, x.f5, x.f6, x.f7))
def Ok53 (y : S53) : Prop := Ok25 y.f0 ∧ (y.f1.length * 32 ≤ 140737488351232 ∧ ∀ q ∈ y.f1, Ok153 q) ∧ Ok47 y.f2 ∧ Rng y.f3 ∧ True ∧ Ok50 y.f5 ∧ (y.f6.length * 24 ≤ 140737488351232 ∧ ∀ q ∈ y.f6, Ok156 q) ∧ (y.f7.length * 8 ≤ 140737488351232 ∧ ∀ q ∈ y.f7, Rng q)
theorem op53 : Opens Try.prog 53 k53 Ok53 :=
  (op_struct (fun y : S53 => (y.f0, y.f1, y.f2, y.f3, y.f4, y.f5, y.f6, y.f7)) Try.underlying53 (by kernel_rfl) (fun ⟨a0, a1, a2, a3, a4, a5, a6, a7⟩ => ⟨⟨a0, a1, a2, a3, a4, a5, a6, a7⟩, rfl⟩) (opFs_cons rfl (by kernel_rfl) op25 (opFs_cons rfl (by kernel_rfl) (op_slice 32 Try.underlying46 (by kernel_rfl) (by kernel_rfl) op153) (opFs_cons rfl (by kernel_rfl) op47 (opFs_cons rfl (by kernel_rfl) (op_i64 Try.underlying3) (opFs_cons rfl (by kernel_rfl) (op_bool Try.underlying4) (opFs_cons rfl (by kernel_rfl) op50 (opFs_cons rfl (by kernel_rfl) (op_slice 24 Try.underlying51 (by kernel_rfl) (by kernel_rfl) op156) (opFs_last rfl (by kernel_rfl) (op_slice 8 Try.underlying31 (by kernel_rfl) (by kernel_rfl) (op_i64 Try.underlying3))))))))))).imp fun _ h => h
/-- The law, over numbers and lists alone. -/
def Pure : Prop := ∀ (y0 : S53), Ok53 y0 → ∃ k, laws_FnExactSafeYard.f k y0.f0.f0.f0 y0.f0.f0.f1 y0.f0.f0.f2 y0.f0.f1 y0.f0.f2 y0.f0.f3 y0.f0.f4 y0.f1 y0.f2.f0 y0.f2.f1 y0.f2.f2 y0.f3 y0.f4 y0.f5.f0 y0.f5.f1 y0.f5.f2 y0.f6 y0.f7 = some true
end Go.Proofs.Ytfinjkjnoobbjaa.OpFnExactSafeYard
