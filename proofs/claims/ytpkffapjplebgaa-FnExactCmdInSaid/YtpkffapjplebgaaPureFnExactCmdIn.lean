/- The law FnExactCmdIn over numbers and lists alone: it answers true for every input; no condition beside the bounds of the kinds. -/
import Derived.Test.YtpkffapjplebgaaPFnExactCmdInx
namespace Go.Proofs.Ytpkffapjplebgaa.Pure
open Go.RowKit Go.Proofs.Ytpkffapjplebgaa.PFnExactCmdIn Go.Proofs.YtpkffapjplebgaaW.PrintWords Go.Proofs.YtpkffapjplebgaaW.PrintLast
set_option linter.unusedVariables false
set_option linter.unusedSimpArgs false

theorem w64 {x : Int} (h1 : -9223372036854775808 ≤ x) (h2 : x ≤ 9223372036854775807) : wrap64 x = x := by unfold wrap64; omega
theorem wnat {i : Nat} (h : i < 4611686018427387904) : wrap64 ((i : Int) + 1) = ((i + 1 : Nat) : Int) := by unfold wrap64; omega
theorem ksucc {k d : Nat} (h : d < k) : ∃ m, k = m + 1 := ⟨k - 1, by omega⟩

/-! frames -/
theorem l01In_eq (a b c : Int) : spec_l01In.f a b c = some (decide (b ≤ a ∧ a ≤ c)) := by
  unfold spec_l01In.f
  by_cases h : a ≥ b
  · rw [if_pos h]; simp [show b ≤ a from h]
  · rw [if_neg h]; simp [show ¬ b ≤ a from h]
def okF (a b c : Int) : Prop := (0 ≤ a ∧ a ≤ 250) ∧ (0 ≤ b ∧ b ≤ 250) ∧ (0 ≤ c ∧ c ≤ 250)
instance (a b c : Int) : Decidable (okF a b c) := by unfold okF; infer_instance
def frm (a b c : Int) : ByteArray := strOfNums [a % 256, b % 256, c % 256, Int.tmod (wrap64 (wrap64 (a + wrap64 (3 * b)) + wrap64 (7 * c))) 251 % 256]
theorem frm_size (a b c : Int) : (frm a b c).size = 4 := by simp [frm, strOfNums, ByteArray.size]
theorem specFrame_eq (a b c : Int) : spec_FrameOf.f a b c = some (if okF a b c then (frm a b c, true) else ((⟨#[]⟩ : ByteArray), false)) := by
  unfold spec_FrameOf.f
  simp only [l01In_eq, Option.bind_some, decide_eq_true_eq]
  by_cases h1 : 0 ≤ a ∧ a ≤ 250
  · rw [if_pos h1]
    by_cases h2 : 0 ≤ b ∧ b ≤ 250
    · rw [if_pos h2]
      by_cases h3 : 0 ≤ c ∧ c ≤ 250
      · rw [if_pos h3, if_pos (show okF a b c from ⟨h1, h2, h3⟩)]; rfl
      · rw [if_neg h3, if_neg (fun h : okF a b c => h3 h.2.2)]
    · rw [if_neg h2, if_neg (fun h : okF a b c => h2 h.2.1)]
  · rw [if_neg h1, if_neg (fun h : okF a b c => h1 h.1)]
theorem implFrame_eq (a b c : Int) : impl_FrameOf.f a b c = spec_FrameOf.f a b c := rfl

theorem implCmdIn_eq (s : ByteArray) : impl_CmdIn.f s = spec_CmdIn.f s := rfl
theorem cmdIn_some (s : ByteArray) : ∃ r, spec_CmdIn.f s = some r := by
  unfold spec_CmdIn.f
  simp only [specFrame_eq, Option.bind_some]
  by_cases h : (s.size : Int) = 4
  · rw [if_pos h, if_pos (by omega), if_pos (by omega), if_pos (by omega)]
    repeat' split
    all_goals exact ⟨_, rfl⟩
  · rw [if_neg h]; exact ⟨_, rfl⟩

theorem FnExactCmdIn : laws_FnExactCmdIn.Pure := by
  intro s _
  unfold laws_FnExactCmdIn.f
  by_cases h : (s.size : Int) > 1048576
  · rw [if_pos h]
  · rw [if_neg h]
    obtain ⟨r, hr⟩ := cmdIn_some s
    rw [implCmdIn_eq, hr]
    simp [laws_eqCmd.f]

end Go.Proofs.Ytpkffapjplebgaa.Pure
