/- How the arguments of the law FnExactFootprint are read, and the law as a statement over numbers and lists alone. -/
import Derived.Test.YtaddjeoncbmohaaXFnExactFootprintMyOpen
import Derived.Test.YtaddjeoncbmohaaMFnExactFootprintx14
import Derived.KernelRfl
namespace Go.Proofs.Ytaddjeoncbmohaa.OpFnExactFootprint
open Go.RowKit Go.Proofs.Ytaddjeoncbmohaa.MyOpen Go.Proofs.Ytaddjeoncbmohaa.MFnExactFootprint Go.Proofs.YtaddjeoncbmohaaW.PrintWords Go.Proofs.YtaddjeoncbmohaaW.PrintLast
set_option linter.unusedVariables false

/-- An int of 64 bits. -/
def Rng (z : Int) : Prop := -9223372036854775808 ≤ z ∧ z ≤ 9223372036854775807
structure S37 where
  f0 : Int
  f1 : Int
  f2 : ByteArray
def k37 : Kd S37 := Kd.iso (Kd.pair (Kd.int .i64) (Kd.pair (Kd.int .i64) Kd.string)) (fun x : S37 => (x.f0, x.f1, x.f2))
def Ok37 (y : S37) : Prop := Rng y.f0 ∧ Rng y.f1 ∧ y.f2.size ≤ 140737488351232
theorem op37 : Opens Try.prog 37 k37 Ok37 :=
  (op_struct (fun y : S37 => (y.f0, y.f1, y.f2)) Try.underlying37 (by kernel_rfl) (fun ⟨a0, a1, a2⟩ => ⟨⟨a0, a1, a2⟩, rfl⟩) (opFs_cons rfl (by kernel_rfl) (op_i64 Try.underlying3) (opFs_cons rfl (by kernel_rfl) (op_i64 Try.underlying3) (opFs_last rfl (by kernel_rfl) (op_string Try.underlying9))))).imp fun _ h => h
structure S39 where
  f0 : S37
  f1 : Int
  f2 : Int
  f3 : Int
  f4 : Int
def k39 : Kd S39 := Kd.iso (Kd.pair k37 (Kd.pair (Kd.int .i64) (Kd.pair (Kd.int .i64) (Kd.pair (Kd.int .i64) (Kd.int .i64))))) (fun x : S39 => (x.f0, x.f1, x.f2, x.f3, x.f4))
def Ok39 (y : S39) : Prop := Ok37 y.f0 ∧ Rng y.f1 ∧ Rng y.f2 ∧ Rng y.f3 ∧ Rng y.f4
theorem op39 : Opens Try.prog 39 k39 Ok39 :=
  (op_struct (fun y : S39 => (y.f0, y.f1, y.f2, y.f3, y.f4)) Try.underlying39 (by kernel_rfl) (fun ⟨a0, a1, a2, a3, a4⟩ => ⟨⟨a0, a1, a2, a3, a4⟩, rfl⟩) (opFs_cons rfl (by kernel_rfl) op37 (opFs_cons rfl (by kernel_rfl) (op_i64 Try.underlying3) (opFs_cons rfl (by kernel_rfl) (op_i64 Try.underlying3) (opFs_cons rfl (by kernel_rfl) (op_i64 Try.underlying3) (opFs_last rfl (by kernel_rfl) (op_i64 Try.underlying3))))))).imp fun _ h => h
def Ok132 (y : S132) : Prop := Rng y.f0 ∧ Rng y.f1 ∧ Rng y.f2 ∧ True
theorem op132 : Opens Try.prog 132 k132 Ok132 :=
  (op_struct (fun y : S132 => (y.f0, y.f1, y.f2, y.f3)) Try.underlying132 (by kernel_rfl) (fun ⟨a0, a1, a2, a3⟩ => ⟨⟨a0, a1, a2, a3⟩, rfl⟩) (opFs_cons rfl (by kernel_rfl) (op_i64 Try.underlying3) (opFs_cons rfl (by kernel_rfl) (op_i64 Try.underlying3) (opFs_cons rfl (by kernel_rfl) (op_i64 Try.underlying3) (opFs_last rfl (by kernel_rfl) (op_bool Try.underlying4)))))).imp fun _ h => h
structure S42 where
  f0 : Int
  f1 : Int
  f2 : List (Int)
def k42 : Kd S42 := Kd.iso (Kd.pair (Kd.int .i64) (Kd.pair (Kd.int .i64) (Kd.slice 3 (Kd.int .i64)))) (fun x : S42 => (x.f0, x.f1, x.f2))
def Ok42 (y : S42) : Prop := Rng y.f0 ∧ Rng y.f1 ∧ (y.f2.length * 8 ≤ 140737488351232 ∧ ∀ q ∈ y.f2, Rng q)
theorem op42 : Opens Try.prog 42 k42 Ok42 :=
  (op_struct (fun y : S42 => (y.f0, y.f1, y.f2)) Try.underlying42 (by kernel_rfl) (fun ⟨a0, a1, a2⟩ => ⟨⟨a0, a1, a2⟩, rfl⟩) (opFs_cons rfl (by kernel_rfl) (op_i64 Try.underlying3) (opFs_cons rfl (by kernel_rfl) (op_i64 Try.underlying3) (opFs_last rfl (by kernel_rfl) (op_slice 8 Try.underlying30 (by kernel_rfl) (by kernel_rfl) (op_i64 Try.underlying3)))))).imp fun _ h => h
def Ok158 (y : S158) : Prop := (y.f0.length * 8 ≤ 140737488351232 ∧ ∀ q ∈ y.f0, Rng q)
theorem op158 : Opens Try.prog 158 k158 Ok158 :=
  (op_struct (fun y : S158 => y.f0) Try.underlying158 (by kernel_rfl) (fun a0 => ⟨⟨a0⟩, rfl⟩) (opFs_last rfl (by kernel_rfl) (op_slice 8 Try.underlying30 (by kernel_rfl) (by kernel_rfl) (op_i64 Try.underlying3)))).imp fun _ h => h
structure S45 where
  f0 : Int
  f1 : Int
  f2 : List (S158)
def k45 : Kd S45 := Kd.iso (Kd.pair (Kd.int .i64) (Kd.pair (Kd.int .i64) (Kd.slice 158 k158))) (fun x : S45 => (x.f0, x.f1, x.f2))
def Ok45 (y : S45) : Prop := Rng y.f0 ∧ Rng y.f1 ∧ (y.f2.length * 24 ≤ 140737488351232 ∧ ∀ q ∈ y.f2, Ok158 q)
theorem op45 : Opens Try.prog 45 k45 Ok45 :=
  (op_struct (fun y : S45 => (y.f0, y.f1, y.f2)) Try.underlying45 (by kernel_rfl) (fun ⟨a0, a1, a2⟩ => ⟨⟨a0, a1, a2⟩, rfl⟩) (opFs_cons rfl (by kernel_rfl) (op_i64 Try.underlying3) (opFs_cons rfl (by kernel_rfl) (op_i64 Try.underlying3) (opFs_last rfl (by kernel_rfl) (op_slice 24 Try.underlying43 (by kernel_rfl) (by kernel_rfl) op158))))).imp fun _ h => h
def Ok135 (y : S135) : Prop := Rng y.f0 ∧ Rng y.f1 ∧ True
theorem op135 : Opens Try.prog 135 k135 Ok135 :=
  (op_struct (fun y : S135 => (y.f0, y.f1, y.f2)) Try.underlying135 (by kernel_rfl) (fun ⟨a0, a1, a2⟩ => ⟨⟨a0, a1, a2⟩, rfl⟩) (opFs_cons rfl (by kernel_rfl) (op_i64 Try.underlying3) (opFs_cons rfl (by kernel_rfl) (op_i64 Try.underlying3) (opFs_last rfl (by kernel_rfl) (op_bool Try.underlying4))))).imp fun _ h => h
structure S48 where
  f0 : S39
  f1 : List (S132)
  f2 : S42
  f3 : Int
  f4 : Bool
  f5 : S45
  f6 : List (S135)
  f7 : List (Int)
def k48 : Kd S48 := Kd.iso (Kd.pair k39 (Kd.pair (Kd.slice 132 k132) (Kd.pair k42 (Kd.pair (Kd.int .i64) (Kd.pair Kd.bool (Kd.pair k45 (Kd.pair (Kd.slice 135 k135) (Kd.slice 3 (Kd.int .i64))))))))) (fun x : S48 => (x.f0, x.f1, x.f2, x.f3, x.f4, x.f5, x.f6, x.f7))
def Ok48 (y : S48) : Prop := Ok39 y.f0 ∧ (y.f1.length * 32 ≤ 140737488351232 ∧ ∀ q ∈ y.f1, Ok132 q) ∧ Ok42 y.f2 ∧ Rng y.f3 ∧ True ∧ Ok45 y.f5 ∧ (y.f6.length * 24 ≤ 140737488351232 ∧ ∀ q ∈ y.f6, Ok135 q) ∧ (y.f7.length * 8 ≤ 140737488351232 ∧ ∀ q ∈ y.f7, Rng q)
theorem op48 : Opens Try.prog 48 k48 Ok48 :=
  (op_struct (fun y : S48 => (y.f0, y.f1, y.f2, y.f3, y.f4, y.f5, y.f6, y.f7)) Try.underlying48 (by kernel_rfl) (fun ⟨a0, a1, a2, a3, a4, a5, a6, a7⟩ => ⟨⟨a0, a1, a2, a3, a4, a5, a6, a7⟩, rfl⟩) (opFs_cons rfl (by kernel_rfl) op39 (opFs_cons rfl (by kernel_rfl) (op_slice 32 Try.underlying40 (by kernel_rfl) (by kernel_rfl) op132) (opFs_cons rfl (by kernel_rfl) op42 (opFs_cons rfl (by kernel_rfl) (op_i64 Try.underlying3) (opFs_cons rfl (by kernel_rfl) (op_bool Try.underlying4) (opFs_cons rfl (by kernel_rfl) op45 (opFs_cons rfl (by kernel_rfl) (op_slice 24 Try.underlying46 (by kernel_rfl) (by kernel_rfl) op135) (opFs_last rfl (by kernel_rfl) (op_slice 8 Try.underlying30 (by kernel_rfl) (by kernel_rfl) (op_i64 Try.underlying3))))))))))).imp fun _ h => h
/-- The law, over numbers and lists alone. -/
def Pure : Prop := ∀ (y0 : S48), Ok48 y0 → ∃ k, laws_FnExactFootprint.f k y0.f0.f0.f0 y0.f0.f0.f1 y0.f0.f0.f2 y0.f0.f1 y0.f0.f2 y0.f0.f3 y0.f0.f4 y0.f1 y0.f2.f0 y0.f2.f1 y0.f2.f2 y0.f3 y0.f4 y0.f5.f0 y0.f5.f1 y0.f5.f2 y0.f6 y0.f7 = some true
end Go.Proofs.Ytaddjeoncbmohaa.OpFnExactFootprint
