/- How the arguments of the law FnExactMapText are read, and the law as a statement over numbers and lists alone. -/
import Derived.Test.YtomchkdbhcakoaaXFnExactMapTextMyOpen
import Derived.Test.YtomchkdbhcakoaaMFnExactMapTextx20
import Derived.KernelRfl
namespace Go.Proofs.Ytomchkdbhcakoaa.OpFnExactMapText
open Go.RowKit Go.Proofs.Ytomchkdbhcakoaa.MyOpen Go.Proofs.Ytomchkdbhcakoaa.MFnExactMapText Go.Proofs.YtomchkdbhcakoaaW.PrintWords Go.Proofs.YtomchkdbhcakoaaW.PrintLast
set_option linter.unusedVariables false

/-- An int of 64 bits. -/
def Rng (z : Int) : Prop := -9223372036854775808 ≤ z ∧ z ≤ 9223372036854775807
structure S23 where
  f0 : Int
  f1 : Int
  f2 : ByteArray
def k23 : Kd S23 := Kd.iso (Kd.pair (Kd.int .i64) (Kd.pair (Kd.int .i64) Kd.string)) (fun x : S23 => (x.f0, x.f1, x.f2))
def Ok23 (y : S23) : Prop := Rng y.f0 ∧ Rng y.f1 ∧ y.f2.size ≤ 140737488351232
theorem op23 : Opens Try.prog 23 k23 Ok23 :=
  (op_struct (fun y : S23 => (y.f0, y.f1, y.f2)) Try.underlying23 (by kernel_rfl) (fun ⟨a0, a1, a2⟩ => ⟨⟨a0, a1, a2⟩, rfl⟩) (opFs_cons rfl (by kernel_rfl) (op_i64 Try.underlying3) (opFs_cons rfl (by kernel_rfl) (op_i64 Try.underlying3) (opFs_last rfl (by kernel_rfl) (op_string Try.underlying9))))).imp fun _ h => h
structure S25 where
  f0 : S23
  f1 : Int
  f2 : Int
  f3 : Int
  f4 : Int
def k25 : Kd S25 := Kd.iso (Kd.pair k23 (Kd.pair (Kd.int .i64) (Kd.pair (Kd.int .i64) (Kd.pair (Kd.int .i64) (Kd.int .i64))))) (fun x : S25 => (x.f0, x.f1, x.f2, x.f3, x.f4))
def Ok25 (y : S25) : Prop := Ok23 y.f0 ∧ Rng y.f1 ∧ Rng y.f2 ∧ Rng y.f3 ∧ Rng y.f4
theorem op25 : Opens Try.prog 25 k25 Ok25 :=
  (op_struct (fun y : S25 => (y.f0, y.f1, y.f2, y.f3, y.f4)) Try.underlying25 (by kernel_rfl) (fun ⟨a0, a1, a2, a3, a4⟩ => ⟨⟨a0, a1, a2, a3, a4⟩, rfl⟩) (opFs_cons rfl (by kernel_rfl) op23 (opFs_cons rfl (by kernel_rfl) (op_i64 Try.underlying3) (opFs_cons rfl (by kernel_rfl) (op_i64 Try.underlying3) (opFs_cons rfl (by kernel_rfl) (op_i64 Try.underlying3) (opFs_last rfl (by kernel_rfl) (op_i64 Try.underlying3))))))).imp fun _ h => h
def Ok117 (y : S117) : Prop := Rng y.f0 ∧ Rng y.f1 ∧ Rng y.f2 ∧ True
theorem op117 : Opens Try.prog 117 k117 Ok117 :=
  (op_struct (fun y : S117 => (y.f0, y.f1, y.f2, y.f3)) Try.underlying117 (by kernel_rfl) (fun ⟨a0, a1, a2, a3⟩ => ⟨⟨a0, a1, a2, a3⟩, rfl⟩) (opFs_cons rfl (by kernel_rfl) (op_i64 Try.underlying3) (opFs_cons rfl (by kernel_rfl) (op_i64 Try.underlying3) (opFs_cons rfl (by kernel_rfl) (op_i64 Try.underlying3) (opFs_last rfl (by kernel_rfl) (op_bool Try.underlying4)))))).imp fun _ h => h
structure S29 where
  f0 : Int
  f1 : Int
  f2 : List (Int)
def k29 : Kd S29 := Kd.iso (Kd.pair (Kd.int .i64) (Kd.pair (Kd.int .i64) (Kd.slice 3 (Kd.int .i64)))) (fun x : S29 => (x.f0, x.f1, x.f2))
def Ok29 (y : S29) : Prop := Rng y.f0 ∧ Rng y.f1 ∧ (y.f2.length * 8 ≤ 140737488351232 ∧ ∀ q ∈ y.f2, Rng q)
theorem op29 : Opens Try.prog 29 k29 Ok29 :=
  (op_struct (fun y : S29 => (y.f0, y.f1, y.f2)) Try.underlying29 (by kernel_rfl) (fun ⟨a0, a1, a2⟩ => ⟨⟨a0, a1, a2⟩, rfl⟩) (opFs_cons rfl (by kernel_rfl) (op_i64 Try.underlying3) (opFs_cons rfl (by kernel_rfl) (op_i64 Try.underlying3) (opFs_last rfl (by kernel_rfl) (op_slice 8 Try.underlying27 (by kernel_rfl) (by kernel_rfl) (op_i64 Try.underlying3)))))).imp fun _ h => h
def Ok174 (y : S174) : Prop := (y.f0.length * 8 ≤ 140737488351232 ∧ ∀ q ∈ y.f0, Rng q)
theorem op174 : Opens Try.prog 174 k174 Ok174 :=
  (op_struct (fun y : S174 => y.f0) Try.underlying174 (by kernel_rfl) (fun a0 => ⟨⟨a0⟩, rfl⟩) (opFs_last rfl (by kernel_rfl) (op_slice 8 Try.underlying27 (by kernel_rfl) (by kernel_rfl) (op_i64 Try.underlying3)))).imp fun _ h => h
structure S32 where
  f0 : Int
  f1 : Int
  f2 : List (S174)
def k32 : Kd S32 := Kd.iso (Kd.pair (Kd.int .i64) (Kd.pair (Kd.int .i64) (Kd.slice 174 k174))) (fun x : S32 => (x.f0, x.f1, x.f2))
def Ok32 (y : S32) : Prop := Rng y.f0 ∧ Rng y.f1 ∧ (y.f2.length * 24 ≤ 140737488351232 ∧ ∀ q ∈ y.f2, Ok174 q)
theorem op32 : Opens Try.prog 32 k32 Ok32 :=
  (op_struct (fun y : S32 => (y.f0, y.f1, y.f2)) Try.underlying32 (by kernel_rfl) (fun ⟨a0, a1, a2⟩ => ⟨⟨a0, a1, a2⟩, rfl⟩) (opFs_cons rfl (by kernel_rfl) (op_i64 Try.underlying3) (opFs_cons rfl (by kernel_rfl) (op_i64 Try.underlying3) (opFs_last rfl (by kernel_rfl) (op_slice 24 Try.underlying30 (by kernel_rfl) (by kernel_rfl) op174))))).imp fun _ h => h
def Ok148 (y : S148) : Prop := Rng y.f0 ∧ Rng y.f1 ∧ True
theorem op148 : Opens Try.prog 148 k148 Ok148 :=
  (op_struct (fun y : S148 => (y.f0, y.f1, y.f2)) Try.underlying148 (by kernel_rfl) (fun ⟨a0, a1, a2⟩ => ⟨⟨a0, a1, a2⟩, rfl⟩) (opFs_cons rfl (by kernel_rfl) (op_i64 Try.underlying3) (opFs_cons rfl (by kernel_rfl) (op_i64 Try.underlying3) (opFs_last rfl (by kernel_rfl) (op_bool Try.underlying4))))).imp fun _ h => h
structure S35 where
  f0 : S25
  f1 : List (S117)
  f2 : S29
  f3 : Int
  f4 : Bool
  f5 : S32
  f6 : List (S148)
  f7 : List (Int)
def k35 : Kd S35 := Kd.iso (Kd.pair k25 (Kd.pair (Kd.slice 117 k117) (Kd.pair k29 (Kd.pair (Kd.int .i64) (Kd.pair Kd.bool (Kd.pair k32 (Kd.pair (Kd.slice 148 k148) (Kd.slice 3 (Kd.int .i64))))))))) (fun x : S35 => (x.f0, x.f1, x.f2, x.f3, x.f4, x.f5, x.f6, x.f7))
def Ok35 (y : S35) : Prop := Ok25 y.f0 ∧ (y.f1.length * 32 ≤ 140737488351232 ∧ ∀ q ∈ y.f1, Ok117 q) ∧ Ok29 y.f2 ∧ Rng y.f3 ∧ True ∧ Ok32 y.f5 ∧ (y.f6.length * 24 ≤ 140737488351232 ∧ ∀ q ∈ y.f6, Ok148 q) ∧ (y.f7.length * 8 ≤ 140737488351232 ∧ ∀ q ∈ y.f7, Rng q)
theorem op35 : Opens Try.prog 35 k35 Ok35 :=
  (op_struct (fun y : S35 => (y.f0, y.f1, y.f2, y.f3, y.f4, y.f5, y.f6, y.f7)) Try.underlying35 (by kernel_rfl) (fun ⟨a0, a1, a2, a3, a4, a5, a6, a7⟩ => ⟨⟨a0, a1, a2, a3, a4, a5, a6, a7⟩, rfl⟩) (opFs_cons rfl (by kernel_rfl) op25 (opFs_cons rfl (by kernel_rfl) (op_slice 32 Try.underlying26 (by kernel_rfl) (by kernel_rfl) op117) (opFs_cons rfl (by kernel_rfl) op29 (opFs_cons rfl (by kernel_rfl) (op_i64 Try.underlying3) (opFs_cons rfl (by kernel_rfl) (op_bool Try.underlying4) (opFs_cons rfl (by kernel_rfl) op32 (opFs_cons rfl (by kernel_rfl) (op_slice 24 Try.underlying33 (by kernel_rfl) (by kernel_rfl) op148) (opFs_last rfl (by kernel_rfl) (op_slice 8 Try.underlying27 (by kernel_rfl) (by kernel_rfl) (op_i64 Try.underlying3))))))))))).imp fun _ h => h
/-- The law, over numbers and lists alone. -/
def Pure : Prop := ∀ (y0 : S35), Ok35 y0 → ∃ k, laws_FnExactMapText.f k y0.f0.f0.f0 y0.f0.f0.f1 y0.f0.f0.f2 y0.f0.f1 y0.f0.f2 y0.f0.f3 y0.f0.f4 y0.f1 y0.f2.f0 y0.f2.f1 y0.f2.f2 y0.f3 y0.f4 y0.f5.f0 y0.f5.f1 y0.f5.f2 y0.f6 y0.f7 = some true
end Go.Proofs.Ytomchkdbhcakoaa.OpFnExactMapText
