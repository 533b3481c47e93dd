/- The law FnExactLinkOf over numbers and lists alone: it answers true for every input; no condition beside the bounds of the kinds. -/
import Derived.Test.YtpkffapjplebgaaPFnExactLinkOfx
import Derived.Test.YtpkffapjplebgaaOpFnExactLinkOf
namespace Go.Proofs.Ytpkffapjplebgaa.Pure
open Go.RowKit Go.Proofs.Ytpkffapjplebgaa.PFnExactLinkOf Go.Proofs.YtpkffapjplebgaaW.PrintWords Go.Proofs.YtpkffapjplebgaaW.PrintLast Go.Proofs.Ytpkffapjplebgaa
set_option linter.unusedVariables false
set_option linter.unusedSimpArgs false

theorem w64 {x : Int} (h1 : -9223372036854775808 ≤ x) (h2 : x ≤ 9223372036854775807) : wrap64 x = x := by unfold wrap64; omega
theorem wnat {i : Nat} (h : i < 4611686018427387904) : wrap64 ((i : Int) + 1) = ((i + 1 : Nat) : Int) := by unfold wrap64; omega
theorem ksucc {k d : Nat} (h : d < k) : ∃ m, k = m + 1 := ⟨k - 1, by omega⟩

/-! frames -/
theorem l01In_eq (a b c : Int) : spec_l01In.f a b c = some (decide (b ≤ a ∧ a ≤ c)) := by
  unfold spec_l01In.f
  by_cases h : a ≥ b
  · rw [if_pos h]; simp [show b ≤ a from h]
  · rw [if_neg h]; simp [show ¬ b ≤ a from h]
def okF (a b c : Int) : Prop := (0 ≤ a ∧ a ≤ 250) ∧ (0 ≤ b ∧ b ≤ 250) ∧ (0 ≤ c ∧ c ≤ 250)
instance (a b c : Int) : Decidable (okF a b c) := by unfold okF; infer_instance
def frm (a b c : Int) : ByteArray := strOfNums [a % 256, b % 256, c % 256, Int.tmod (wrap64 (wrap64 (a + wrap64 (3 * b)) + wrap64 (7 * c))) 251 % 256]
theorem frm_size (a b c : Int) : (frm a b c).size = 4 := by simp [frm, strOfNums, ByteArray.size]
theorem specFrame_eq (a b c : Int) : spec_FrameOf.f a b c = some (if okF a b c then (frm a b c, true) else ((⟨#[]⟩ : ByteArray), false)) := by
  unfold spec_FrameOf.f
  simp only [l01In_eq, Option.bind_some, decide_eq_true_eq]
  by_cases h1 : 0 ≤ a ∧ a ≤ 250
  · rw [if_pos h1]
    by_cases h2 : 0 ≤ b ∧ b ≤ 250
    · rw [if_pos h2]
      by_cases h3 : 0 ≤ c ∧ c ≤ 250
      · rw [if_pos h3, if_pos (show okF a b c from ⟨h1, h2, h3⟩)]; rfl
      · rw [if_neg h3, if_neg (fun h : okF a b c => h3 h.2.2)]
    · rw [if_neg h2, if_neg (fun h : okF a b c => h2 h.2.1)]
  · rw [if_neg h1, if_neg (fun h : okF a b c => h1 h.1)]
theorem implFrame_eq (a b c : Int) : impl_FrameOf.f a b c = spec_FrameOf.f a b c := rfl

/-! records -/
def stp (f : ByteArray) (i : Int) (s : Int) : Int := Int.tmod (wrap64 (wrap64 (wrap64 (31 * s) + wrap64 (bt f i)) + 7)) 65521
theorem stp_rng (f : ByteArray) (i s : Int) (h : 0 ≤ s ∧ s ≤ 65535) : 0 ≤ stp f i s ∧ stp f i s ≤ 65520 := by
  have hb := bt_range f i
  unfold stp
  rw [w64 (x := 31 * s) (by omega) (by omega), w64 (x := bt f i) (by omega) (by omega), w64 (x := 31 * s + bt f i) (by omega) (by omega), w64 (by omega) (by omega), Int.tmod_eq_emod_of_nonneg (by omega)]
  omega
def lsum (f : ByteArray) (s : Int) : Int := stp f 3 (stp f 2 (stp f 1 (stp f 0 s)))
theorem lsum_rng (f : ByteArray) (s : Int) (h : 0 ≤ s ∧ s ≤ 65535) : 0 ≤ lsum f s ∧ lsum f s ≤ 65520 := by
  have h0 := stp_rng f 0 s h
  have h1 := stp_rng f 1 (stp f 0 s) (by omega)
  have h2 := stp_rng f 2 (stp f 1 (stp f 0 s)) (by omega)
  exact stp_rng f 3 (stp f 2 (stp f 1 (stp f 0 s))) (by omega)
def rec6 (f : ByteArray) (s : Int) : ByteArray := f ++ strOfNums [(lsum f s / 256) % 256, lsum f s % 256]
theorem two_size (a b : Int) : (strOfNums [a, b]).size = 2 := by simp [strOfNums, ByteArray.size]
theorem specLink_step (k : Nat) (s : Int) (f : ByteArray) (i : Int) (hf : f.size = 4) (h0 : 0 ≤ i) (h4 : i < 4) : spec_LinkOf.l0 (k + 1) s f i = spec_LinkOf.l0 k (stp f i s) f (i + 1) := by
  rw [spec_LinkOf.l0, if_pos h4, if_pos h0, if_pos (by omega), w64 (x := i + 1) (by omega) (by omega)]
  rfl
theorem implLink_step (k : Nat) (s : Int) (f : ByteArray) (i : Int) (hf : f.size = 4) (h0 : 0 ≤ i) (h4 : i < 4) : impl_LinkOf.l0 (k + 1) s f i = impl_LinkOf.l0 k (stp f i s) f (i + 1) := by
  rw [impl_LinkOf.l0, if_pos (by omega), if_pos h0, w64 (x := i + 1) (by omega) (by omega)]
  rfl
theorem specLink_l (f : ByteArray) (s : Int) (hf : f.size = 4) (hs : 0 ≤ s ∧ s ≤ 65535) (k : Nat) : spec_LinkOf.l0 (k + 5) s f 0 = some (rec6 f s, lsum f s, true) := by
  have hl := lsum_rng f s hs
  rw [specLink_step _ _ _ _ hf (by omega) (by omega), specLink_step _ _ _ _ hf (by omega) (by omega), specLink_step _ _ _ _ hf (by omega) (by omega), specLink_step _ _ _ _ hf (by omega) (by omega)]
  have e : stp f (0 + 1 + 1 + 1) (stp f (0 + 1 + 1) (stp f (0 + 1) (stp f 0 s))) = lsum f s := rfl
  rw [e, spec_LinkOf.l0, if_neg (by omega)]
  simp only [Option.bind_some]
  rw [if_pos (by rw [hf, two_size]; omega), w64 (by rw [Int.tdiv_eq_ediv_of_nonneg (by omega)]; omega) (by rw [Int.tdiv_eq_ediv_of_nonneg (by omega)]; omega), Int.tdiv_eq_ediv_of_nonneg (by omega), Int.tmod_eq_emod_of_nonneg (by omega), Int.emod_emod_of_dvd _ (Int.dvd_refl 256)]
  rfl
theorem implLink_l (f : ByteArray) (s : Int) (hf : f.size = 4) (hs : 0 ≤ s ∧ s ≤ 65535) (k : Nat) : impl_LinkOf.l0 (k + 5) s f 0 = some (rec6 f s, lsum f s, true) := by
  have hl := lsum_rng f s hs
  rw [implLink_step _ _ _ _ hf (by omega) (by omega), implLink_step _ _ _ _ hf (by omega) (by omega), implLink_step _ _ _ _ hf (by omega) (by omega), implLink_step _ _ _ _ hf (by omega) (by omega)]
  have e : stp f (0 + 1 + 1 + 1) (stp f (0 + 1 + 1) (stp f (0 + 1) (stp f 0 s))) = lsum f s := rfl
  rw [e, impl_LinkOf.l0, if_neg (by omega)]
  simp only [Option.bind_some]
  rw [if_pos (by rw [hf, two_size]; omega)]
  rfl
def linkV (s a b c : Int) : ByteArray × Int × Bool := if okF a b c ∧ 0 ≤ s ∧ s ≤ 65535 then (rec6 (frm a b c) s, lsum (frm a b c) s, true) else ((⟨#[]⟩ : ByteArray), 0, false)
theorem specLink_ev (s a b c : Int) (k : Nat) (hk : 6 ≤ k) : spec_LinkOf.f k s a b c = some (linkV s a b c) := by
  obtain ⟨k, rfl⟩ : ∃ m, k = m + 5 + 1 := ⟨k - 6, by omega⟩
  unfold spec_LinkOf.f linkV
  rw [specFrame_eq]
  simp only [Option.bind_some]
  by_cases h1 : okF a b c
  · rw [if_pos h1, if_pos rfl, l01In_eq]
    simp only [Option.bind_some]
    rw [spec_LinkOf.j0]
    by_cases h2 : 0 ≤ s ∧ s ≤ 65535
    · rw [if_neg (by simp [h2]), if_pos ⟨h1, h2⟩]
      exact specLink_l _ s (frm_size a b c) h2 k
    · rw [if_pos (by simp; omega), if_neg (fun h => h2 h.2)]
  · rw [if_neg h1, if_neg (by simp), spec_LinkOf.j0, if_pos rfl, if_neg (fun h => h1 h.1)]
theorem implLink_ev (s a b c : Int) (k : Nat) (hk : 6 ≤ k) : impl_LinkOf.f k s a b c = some (linkV s a b c) := by
  obtain ⟨k, rfl⟩ : ∃ m, k = m + 5 + 1 := ⟨k - 6, by omega⟩
  unfold impl_LinkOf.f linkV
  rw [implFrame_eq, specFrame_eq]
  simp only [Option.bind_some]
  by_cases h2 : s < 0
  · rw [if_pos h2, impl_LinkOf.j0, if_pos rfl, if_neg (fun h => by omega)]
  rw [if_neg h2]
  by_cases h3 : s > 65535
  · rw [if_pos h3, impl_LinkOf.j0, if_pos rfl, if_neg (fun h => by omega)]
  rw [if_neg h3, impl_LinkOf.j0]
  by_cases h1 : okF a b c
  · simp only [if_pos h1]
    rw [if_neg (by simp), if_pos ⟨h1, by omega⟩]
    exact implLink_l _ s (frm_size a b c) (by omega) k
  · simp only [if_neg h1]
    rw [if_pos (by simp), if_neg (fun h => h1 h.1)]

theorem FnExactLinkOf : OpFnExactLinkOf.Pure := by
  intro s y _ _
  refine ⟨6, ?_⟩
  unfold laws_FnExactLinkOf.f laws_toCmd.f
  simp only [Option.bind_some, specLink_ev _ _ _ _ 6 (Nat.le_refl _), implLink_ev _ _ _ _ 6 (Nat.le_refl _)]
  simp

end Go.Proofs.Ytpkffapjplebgaa.Pure
