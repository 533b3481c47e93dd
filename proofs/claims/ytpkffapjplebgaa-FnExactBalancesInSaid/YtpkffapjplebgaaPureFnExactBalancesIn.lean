/- The law FnExactBalancesIn over numbers and lists alone: it answers true for every input; no condition beside the bounds of the kinds. -/
import Derived.Test.YtpkffapjplebgaaPFnExactBalancesInx
import Derived.Test.YtpkffapjplebgaaOpFnExactBalancesIn
namespace Go.Proofs.Ytpkffapjplebgaa.Pure
open Go.RowKit Go.Proofs.Ytpkffapjplebgaa.PFnExactBalancesIn Go.Proofs.YtpkffapjplebgaaW.PrintWords Go.Proofs.YtpkffapjplebgaaW.PrintLast Go.Proofs.Ytpkffapjplebgaa
set_option linter.unusedVariables false
set_option linter.unusedSimpArgs false

theorem w64 {x : Int} (h1 : -9223372036854775808 ≤ x) (h2 : x ≤ 9223372036854775807) : wrap64 x = x := by unfold wrap64; omega
theorem wnat {i : Nat} (h : i < 4611686018427387904) : wrap64 ((i : Int) + 1) = ((i + 1 : Nat) : Int) := by unfold wrap64; omega
theorem ksucc {k d : Nat} (h : d < k) : ∃ m, k = m + 1 := ⟨k - 1, by omega⟩

/-! frames -/
theorem l01In_eq (a b c : Int) : spec_l01In.f a b c = some (decide (b ≤ a ∧ a ≤ c)) := by
  unfold spec_l01In.f
  by_cases h : a ≥ b
  · rw [if_pos h]; simp [show b ≤ a from h]
  · rw [if_neg h]; simp [show ¬ b ≤ a from h]

/-! commands: made of what came in, compared, marked -/
def cv (y : S23) : S26 := ⟨y.f0, y.f1, y.f2⟩
theorem rdL (xs : List S23) (i : Nat) (h : i < xs.length) : rd_T23 xs (i : Int) = xs[i] := by simp [rd_T23, List.getD, h]
theorem rdI (xs : List S26) (i : Nat) (h : i < xs.length) : rd_T26 xs (i : Int) = xs[i] := by simp [rd_T26, List.getD, h]
theorem fill_step {α β : Type} (f : α → β) (z : β) (xs : List α) (i d : Nat) (h : i + (d + 1) = xs.length) (hi : i < xs.length) :
    ((xs.take i).map f ++ List.replicate (d + 1) z).set i (f xs[i]) = (xs.take (i + 1)).map f ++ List.replicate d z := by
  have hl : ((xs.take i).map f).length = i := by simp; omega
  rw [List.replicate_succ, List.set_append_right _ _ (by omega), hl, Nat.sub_self, List.set_cons_zero, List.take_succ_eq_append_getElem hi, List.map_append]
  simp
theorem toCmdS_l (xs : List S23) (hb : xs.length ≤ 1048576) : ∀ (d i k : Nat), i + d = xs.length → d < k →
    laws_toCmdS.l0 k xs ((xs.take i).map cv ++ List.replicate d z26) (i : Int) = some (xs.map cv) := by
  intro d
  induction d with
  | zero =>
    intro i k h hk
    obtain ⟨k, rfl⟩ := ksucc hk
    simp only [laws_toCmdS.l0]
    rw [if_neg (by omega), List.take_of_length_le (by omega)]
    simp
  | succ d ih =>
    intro i k h hk
    obtain ⟨k, rfl⟩ := ksucc hk
    have hi : i < xs.length := by omega
    simp only [laws_toCmdS.l0, laws_toCmd.f, Option.bind_some]
    rw [if_pos (by omega), if_pos (by omega), if_pos (by simp; omega), rdL xs i hi, wnat (by omega)]
    have e : (i : Int).toNat = i := by simp
    rw [e]
    exact (congrArg (fun z => laws_toCmdS.l0 k xs z ((i + 1 : Nat) : Int)) (fill_step cv z26 xs i d h hi)).trans (ih (i + 1) k (by omega) (by omega))
theorem toCmdS_ev (xs : List S23) (hb : xs.length ≤ 1048576) (k : Nat) (hk : xs.length < k) : laws_toCmdS.f k xs = some (xs.map cv) := by
  unfold laws_toCmdS.f
  rw [if_pos (by omega), if_pos (by omega)]
  have := toCmdS_l xs hb xs.length 0 k (by omega) hk
  simpa using this
theorem eqCmd_refl (a b c : Int) : laws_eqCmd.f a b c a b c = some true := by simp [laws_eqCmd.f]
theorem eqCmdS_l (xs : List S26) (hb : xs.length ≤ 1048576) : ∀ (d i k : Nat), i + d = xs.length → d < k → laws_eqCmdS.l0 k xs xs (i : Int) = some true := by
  intro d
  induction d with
  | zero =>
    intro i k h hk
    obtain ⟨k, rfl⟩ := ksucc hk
    simp only [laws_eqCmdS.l0]
    rw [if_neg (by omega)]
  | succ d ih =>
    intro i k h hk
    obtain ⟨k, rfl⟩ := ksucc hk
    simp only [laws_eqCmdS.l0, eqCmd_refl, Option.bind_some]
    rw [if_pos (by omega), if_pos (by omega), if_pos (by omega), if_pos trivial, wnat (by omega)]
    exact ih (i + 1) k (by omega) (by omega)
theorem eqCmdS_ev (xs : List S26) (hb : xs.length ≤ 1048576) (k : Nat) (hk : xs.length < k) : laws_eqCmdS.f k xs xs = some true := by
  unfold laws_eqCmdS.f
  rw [if_pos rfl]
  exact eqCmdS_l xs hb xs.length 0 k (by omega) hk

theorem szCmdS_eq (xs : List S23) (h : xs.length * 24 ≤ 140737488351232) : laws_szCmdS.f xs 1048576 = some (if xs.length ≤ 1048576 then 1048576 - (xs.length : Int) else -1) := by
  unfold laws_szCmdS.f
  rw [w64 (by omega) (by omega)]
  by_cases h1 : xs.length ≤ 1048576
  · rw [if_pos h1, if_neg (by omega)]
  · rw [if_neg h1, if_pos (by omega)]

/-! ticks, counted -/
def ticks (xs : List S26) : Nat := xs.countP (fun c => decide (c.f0 = 2))
theorem ticks_le (xs : List S26) : ticks xs ≤ xs.length := List.countP_le_length
theorem ticks_snoc (xs : List S26) (i : Nat) (h : i < xs.length) : ticks (xs.take (i + 1)) = ticks (xs.take i) + if xs[i].f0 = 2 then 1 else 0 := by
  rw [List.take_succ_eq_append_getElem h, ticks, List.countP_append]
  simp [ticks]
theorem specTicks_l (xs : List S26) (hb : xs.length ≤ 1048576) : ∀ (d i k : Nat), i + d = xs.length → d < k →
    spec_TicksIn.l0 k xs (ticks (xs.take i) : Int) (i : Int) = some (ticks xs : Int) := by
  intro d
  induction d with
  | zero =>
    intro i k h hk
    obtain ⟨k, rfl⟩ := ksucc hk
    simp only [spec_TicksIn.l0]
    rw [if_neg (by omega), List.take_of_length_le (by omega)]
  | succ d ih =>
    intro i k h hk
    obtain ⟨k, rfl⟩ := ksucc hk
    have hi : i < xs.length := by omega
    have hs := ticks_snoc xs i hi
    have hl := ticks_le (xs.take i)
    have hl2 : (xs.take i).length = i := by simp; omega
    have := ih (i + 1) k (by omega) (by omega)
    simp only [spec_TicksIn.l0]
    rw [if_pos (by omega), if_pos (by omega), rdI xs i hi, wnat (i := i) (by omega)]
    by_cases ht : xs[i].f0 = 2
    · rw [if_pos ht] at hs
      rw [if_pos ht, wnat (by omega), ← hs]
      exact this
    · replace hs : ticks (xs.take (i + 1)) = ticks (xs.take i) := by simpa [ht] using hs
      rw [if_neg ht, ← hs]
      exact this
theorem implTicks_l (xs : List S26) (hb : xs.length ≤ 1048576) : ∀ (d i k : Nat), i + d = xs.length → d < k →
    impl_TicksIn.l0 k (ticks (xs.take i) : Int) xs (xs.length : Int) (i : Int) = some (ticks xs : Int) := by
  intro d
  induction d with
  | zero =>
    intro i k h hk
    obtain ⟨k, rfl⟩ := ksucc hk
    simp only [impl_TicksIn.l0]
    rw [if_neg (by omega), List.take_of_length_le (by omega)]
  | succ d ih =>
    intro i k h hk
    obtain ⟨k, rfl⟩ := ksucc hk
    have hi : i < xs.length := by omega
    have hs := ticks_snoc xs i hi
    have hl := ticks_le (xs.take i)
    have hl2 : (xs.take i).length = i := by simp; omega
    have := ih (i + 1) k (by omega) (by omega)
    simp only [impl_TicksIn.l0]
    rw [if_pos (by omega), if_pos (by omega), if_pos (by omega), rdI xs i hi, wnat (i := i) (by omega)]
    by_cases ht : xs[i].f0 = 2
    · rw [if_pos ht] at hs
      rw [if_pos ht, wnat (by omega), ← hs]
      exact this
    · replace hs : ticks (xs.take (i + 1)) = ticks (xs.take i) := by simpa [ht] using hs
      rw [if_neg ht, ← hs]
      exact this
theorem specTicks_ev (xs : List S26) (hb : xs.length ≤ 1048576) (k : Nat) (hk : xs.length < k) : spec_TicksIn.f k xs = some (ticks xs : Int) :=
  specTicks_l xs hb xs.length 0 k (by omega) hk
theorem implTicks_ev (xs : List S26) (hb : xs.length ≤ 1048576) (k : Nat) (hk : xs.length < k) : impl_TicksIn.f k xs = some (ticks xs : Int) :=
  implTicks_l xs hb xs.length 0 k (by omega) hk

theorem FnExactBalancesIn : OpFnExactBalancesIn.Pure := by
  intro xs p ⟨hw, _⟩ _
  refine ⟨xs.length + 1, ?_⟩
  unfold laws_FnExactBalancesIn.f
  rw [szCmdS_eq xs hw]
  simp only [Option.bind_some]
  by_cases h1 : xs.length ≤ 1048576
  · rw [if_pos h1, if_neg (by omega)]
    rw [toCmdS_ev xs h1 _ (by omega)]
    simp only [Option.bind_some]
    have e1 := specTicks_ev (xs.map cv) (by simpa using h1) (xs.length + 1) (by simp)
    have e2 := implTicks_ev (xs.map cv) (by simpa using h1) (xs.length + 1) (by simp)
    have e3 := eqCmdS_ev (xs.map cv) (by simpa using h1) (xs.length + 1) (by simp)
    unfold spec_BalancesIn.f impl_BalancesIn.f
    rw [l01In_eq, e1, e2, e3]
    simp only [Option.bind_some, decide_eq_true_eq]
    by_cases hp : 1 ≤ p ∧ p ≤ 20
    · rw [if_pos hp, if_neg (by omega), if_neg (by omega), if_neg (by omega)]
      simp
    · rw [if_neg hp]
      by_cases h3 : p < 1
      · rw [if_pos h3]; simp
      · rw [if_neg h3, if_pos (by omega)]; simp
  · rw [if_neg h1]; rfl

end Go.Proofs.Ytpkffapjplebgaa.Pure
