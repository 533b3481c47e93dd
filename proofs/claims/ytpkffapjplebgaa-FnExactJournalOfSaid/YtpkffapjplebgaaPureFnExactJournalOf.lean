/- The law FnExactJournalOf over numbers and lists alone: it answers true for every input; no condition beside the bounds of the kinds. -/
import Derived.Test.YtpkffapjplebgaaPFnExactJournalOfx
import Derived.Test.YtpkffapjplebgaaOpFnExactJournalOf
namespace Go.Proofs.Ytpkffapjplebgaa.Pure
open Go.RowKit Go.Proofs.Ytpkffapjplebgaa.PFnExactJournalOf Go.Proofs.YtpkffapjplebgaaW.PrintWords Go.Proofs.YtpkffapjplebgaaW.PrintLast Go.Proofs.Ytpkffapjplebgaa
set_option linter.unusedVariables false
set_option linter.unusedSimpArgs false

theorem w64 {x : Int} (h1 : -9223372036854775808 ≤ x) (h2 : x ≤ 9223372036854775807) : wrap64 x = x := by unfold wrap64; omega
theorem wnat {i : Nat} (h : i < 4611686018427387904) : wrap64 ((i : Int) + 1) = ((i + 1 : Nat) : Int) := by unfold wrap64; omega
theorem ksucc {k d : Nat} (h : d < k) : ∃ m, k = m + 1 := ⟨k - 1, by omega⟩

/-! frames -/
theorem l01In_eq (a b c : Int) : spec_l01In.f a b c = some (decide (b ≤ a ∧ a ≤ c)) := by
  unfold spec_l01In.f
  by_cases h : a ≥ b
  · rw [if_pos h]; simp [show b ≤ a from h]
  · rw [if_neg h]; simp [show ¬ b ≤ a from h]
def okF (a b c : Int) : Prop := (0 ≤ a ∧ a ≤ 250) ∧ (0 ≤ b ∧ b ≤ 250) ∧ (0 ≤ c ∧ c ≤ 250)
instance (a b c : Int) : Decidable (okF a b c) := by unfold okF; infer_instance
def frm (a b c : Int) : ByteArray := strOfNums [a % 256, b % 256, c % 256, Int.tmod (wrap64 (wrap64 (a + wrap64 (3 * b)) + wrap64 (7 * c))) 251 % 256]
theorem frm_size (a b c : Int) : (frm a b c).size = 4 := by simp [frm, strOfNums, ByteArray.size]
theorem specFrame_eq (a b c : Int) : spec_FrameOf.f a b c = some (if okF a b c then (frm a b c, true) else ((⟨#[]⟩ : ByteArray), false)) := by
  unfold spec_FrameOf.f
  simp only [l01In_eq, Option.bind_some, decide_eq_true_eq]
  by_cases h1 : 0 ≤ a ∧ a ≤ 250
  · rw [if_pos h1]
    by_cases h2 : 0 ≤ b ∧ b ≤ 250
    · rw [if_pos h2]
      by_cases h3 : 0 ≤ c ∧ c ≤ 250
      · rw [if_pos h3, if_pos (show okF a b c from ⟨h1, h2, h3⟩)]; rfl
      · rw [if_neg h3, if_neg (fun h : okF a b c => h3 h.2.2)]
    · rw [if_neg h2, if_neg (fun h : okF a b c => h2 h.2.1)]
  · rw [if_neg h1, if_neg (fun h : okF a b c => h1 h.1)]
theorem implFrame_eq (a b c : Int) : impl_FrameOf.f a b c = spec_FrameOf.f a b c := rfl

/-! records -/
def stp (f : ByteArray) (i : Int) (s : Int) : Int := Int.tmod (wrap64 (wrap64 (wrap64 (31 * s) + wrap64 (bt f i)) + 7)) 65521
theorem stp_rng (f : ByteArray) (i s : Int) (h : 0 ≤ s ∧ s ≤ 65535) : 0 ≤ stp f i s ∧ stp f i s ≤ 65520 := by
  have hb := bt_range f i
  unfold stp
  rw [w64 (x := 31 * s) (by omega) (by omega), w64 (x := bt f i) (by omega) (by omega), w64 (x := 31 * s + bt f i) (by omega) (by omega), w64 (by omega) (by omega), Int.tmod_eq_emod_of_nonneg (by omega)]
  omega
def lsum (f : ByteArray) (s : Int) : Int := stp f 3 (stp f 2 (stp f 1 (stp f 0 s)))
theorem lsum_rng (f : ByteArray) (s : Int) (h : 0 ≤ s ∧ s ≤ 65535) : 0 ≤ lsum f s ∧ lsum f s ≤ 65520 := by
  have h0 := stp_rng f 0 s h
  have h1 := stp_rng f 1 (stp f 0 s) (by omega)
  have h2 := stp_rng f 2 (stp f 1 (stp f 0 s)) (by omega)
  exact stp_rng f 3 (stp f 2 (stp f 1 (stp f 0 s))) (by omega)
def rec6 (f : ByteArray) (s : Int) : ByteArray := f ++ strOfNums [(lsum f s / 256) % 256, lsum f s % 256]
theorem two_size (a b : Int) : (strOfNums [a, b]).size = 2 := by simp [strOfNums, ByteArray.size]
theorem specLink_step (k : Nat) (s : Int) (f : ByteArray) (i : Int) (hf : f.size = 4) (h0 : 0 ≤ i) (h4 : i < 4) : spec_LinkOf.l0 (k + 1) s f i = spec_LinkOf.l0 k (stp f i s) f (i + 1) := by
  rw [spec_LinkOf.l0, if_pos h4, if_pos h0, if_pos (by omega), w64 (x := i + 1) (by omega) (by omega)]
  rfl
theorem implLink_step (k : Nat) (s : Int) (f : ByteArray) (i : Int) (hf : f.size = 4) (h0 : 0 ≤ i) (h4 : i < 4) : impl_LinkOf.l0 (k + 1) s f i = impl_LinkOf.l0 k (stp f i s) f (i + 1) := by
  rw [impl_LinkOf.l0, if_pos (by omega), if_pos h0, w64 (x := i + 1) (by omega) (by omega)]
  rfl
theorem specLink_l (f : ByteArray) (s : Int) (hf : f.size = 4) (hs : 0 ≤ s ∧ s ≤ 65535) (k : Nat) : spec_LinkOf.l0 (k + 5) s f 0 = some (rec6 f s, lsum f s, true) := by
  have hl := lsum_rng f s hs
  rw [specLink_step _ _ _ _ hf (by omega) (by omega), specLink_step _ _ _ _ hf (by omega) (by omega), specLink_step _ _ _ _ hf (by omega) (by omega), specLink_step _ _ _ _ hf (by omega) (by omega)]
  have e : stp f (0 + 1 + 1 + 1) (stp f (0 + 1 + 1) (stp f (0 + 1) (stp f 0 s))) = lsum f s := rfl
  rw [e, spec_LinkOf.l0, if_neg (by omega)]
  simp only [Option.bind_some]
  rw [if_pos (by rw [hf, two_size]; omega), w64 (by rw [Int.tdiv_eq_ediv_of_nonneg (by omega)]; omega) (by rw [Int.tdiv_eq_ediv_of_nonneg (by omega)]; omega), Int.tdiv_eq_ediv_of_nonneg (by omega), Int.tmod_eq_emod_of_nonneg (by omega), Int.emod_emod_of_dvd _ (Int.dvd_refl 256)]
  rfl
theorem implLink_l (f : ByteArray) (s : Int) (hf : f.size = 4) (hs : 0 ≤ s ∧ s ≤ 65535) (k : Nat) : impl_LinkOf.l0 (k + 5) s f 0 = some (rec6 f s, lsum f s, true) := by
  have hl := lsum_rng f s hs
  rw [implLink_step _ _ _ _ hf (by omega) (by omega), implLink_step _ _ _ _ hf (by omega) (by omega), implLink_step _ _ _ _ hf (by omega) (by omega), implLink_step _ _ _ _ hf (by omega) (by omega)]
  have e : stp f (0 + 1 + 1 + 1) (stp f (0 + 1 + 1) (stp f (0 + 1) (stp f 0 s))) = lsum f s := rfl
  rw [e, impl_LinkOf.l0, if_neg (by omega)]
  simp only [Option.bind_some]
  rw [if_pos (by rw [hf, two_size]; omega)]
  rfl
def linkV (s a b c : Int) : ByteArray × Int × Bool := if okF a b c ∧ 0 ≤ s ∧ s ≤ 65535 then (rec6 (frm a b c) s, lsum (frm a b c) s, true) else ((⟨#[]⟩ : ByteArray), 0, false)
theorem specLink_ev (s a b c : Int) (k : Nat) (hk : 6 ≤ k) : spec_LinkOf.f k s a b c = some (linkV s a b c) := by
  obtain ⟨k, rfl⟩ : ∃ m, k = m + 5 + 1 := ⟨k - 6, by omega⟩
  unfold spec_LinkOf.f linkV
  rw [specFrame_eq]
  simp only [Option.bind_some]
  by_cases h1 : okF a b c
  · rw [if_pos h1, if_pos rfl, l01In_eq]
    simp only [Option.bind_some]
    rw [spec_LinkOf.j0]
    by_cases h2 : 0 ≤ s ∧ s ≤ 65535
    · rw [if_neg (by simp [h2]), if_pos ⟨h1, h2⟩]
      exact specLink_l _ s (frm_size a b c) h2 k
    · rw [if_pos (by simp; omega), if_neg (fun h => h2 h.2)]
  · rw [if_neg h1, if_neg (by simp), spec_LinkOf.j0, if_pos rfl, if_neg (fun h => h1 h.1)]
theorem implLink_ev (s a b c : Int) (k : Nat) (hk : 6 ≤ k) : impl_LinkOf.f k s a b c = some (linkV s a b c) := by
  obtain ⟨k, rfl⟩ : ∃ m, k = m + 5 + 1 := ⟨k - 6, by omega⟩
  unfold impl_LinkOf.f linkV
  rw [implFrame_eq, specFrame_eq]
  simp only [Option.bind_some]
  by_cases h2 : s < 0
  · rw [if_pos h2, impl_LinkOf.j0, if_pos rfl, if_neg (fun h => by omega)]
  rw [if_neg h2]
  by_cases h3 : s > 65535
  · rw [if_pos h3, impl_LinkOf.j0, if_pos rfl, if_neg (fun h => by omega)]
  rw [if_neg h3, impl_LinkOf.j0]
  by_cases h1 : okF a b c
  · simp only [if_pos h1]
    rw [if_neg (by simp), if_pos ⟨h1, by omega⟩]
    exact implLink_l _ s (frm_size a b c) (by omega) k
  · simp only [if_neg h1]
    rw [if_pos (by simp), if_neg (fun h => h1 h.1)]

/-! commands: made of what came in, compared, marked -/
def cv (y : S23) : S26 := ⟨y.f0, y.f1, y.f2⟩
theorem rdL (xs : List S23) (i : Nat) (h : i < xs.length) : rd_T23 xs (i : Int) = xs[i] := by simp [rd_T23, List.getD, h]
theorem rdI (xs : List S26) (i : Nat) (h : i < xs.length) : rd_T26 xs (i : Int) = xs[i] := by simp [rd_T26, List.getD, h]
theorem fill_step {α β : Type} (f : α → β) (z : β) (xs : List α) (i d : Nat) (h : i + (d + 1) = xs.length) (hi : i < xs.length) :
    ((xs.take i).map f ++ List.replicate (d + 1) z).set i (f xs[i]) = (xs.take (i + 1)).map f ++ List.replicate d z := by
  have hl : ((xs.take i).map f).length = i := by simp; omega
  rw [List.replicate_succ, List.set_append_right _ _ (by omega), hl, Nat.sub_self, List.set_cons_zero, List.take_succ_eq_append_getElem hi, List.map_append]
  simp
theorem toCmdS_l (xs : List S23) (hb : xs.length ≤ 1048576) : ∀ (d i k : Nat), i + d = xs.length → d < k →
    laws_toCmdS.l0 k xs ((xs.take i).map cv ++ List.replicate d z26) (i : Int) = some (xs.map cv) := by
  intro d
  induction d with
  | zero =>
    intro i k h hk
    obtain ⟨k, rfl⟩ := ksucc hk
    simp only [laws_toCmdS.l0]
    rw [if_neg (by omega), List.take_of_length_le (by omega)]
    simp
  | succ d ih =>
    intro i k h hk
    obtain ⟨k, rfl⟩ := ksucc hk
    have hi : i < xs.length := by omega
    simp only [laws_toCmdS.l0, laws_toCmd.f, Option.bind_some]
    rw [if_pos (by omega), if_pos (by omega), if_pos (by simp; omega), rdL xs i hi, wnat (by omega)]
    have e : (i : Int).toNat = i := by simp
    rw [e]
    exact (congrArg (fun z => laws_toCmdS.l0 k xs z ((i + 1 : Nat) : Int)) (fill_step cv z26 xs i d h hi)).trans (ih (i + 1) k (by omega) (by omega))
theorem toCmdS_ev (xs : List S23) (hb : xs.length ≤ 1048576) (k : Nat) (hk : xs.length < k) : laws_toCmdS.f k xs = some (xs.map cv) := by
  unfold laws_toCmdS.f
  rw [if_pos (by omega), if_pos (by omega)]
  have := toCmdS_l xs hb xs.length 0 k (by omega) hk
  simpa using this
theorem eqCmd_refl (a b c : Int) : laws_eqCmd.f a b c a b c = some true := by simp [laws_eqCmd.f]
theorem eqCmdS_l (xs : List S26) (hb : xs.length ≤ 1048576) : ∀ (d i k : Nat), i + d = xs.length → d < k → laws_eqCmdS.l0 k xs xs (i : Int) = some true := by
  intro d
  induction d with
  | zero =>
    intro i k h hk
    obtain ⟨k, rfl⟩ := ksucc hk
    simp only [laws_eqCmdS.l0]
    rw [if_neg (by omega)]
  | succ d ih =>
    intro i k h hk
    obtain ⟨k, rfl⟩ := ksucc hk
    simp only [laws_eqCmdS.l0, eqCmd_refl, Option.bind_some]
    rw [if_pos (by omega), if_pos (by omega), if_pos (by omega), if_pos trivial, wnat (by omega)]
    exact ih (i + 1) k (by omega) (by omega)
theorem eqCmdS_ev (xs : List S26) (hb : xs.length ≤ 1048576) (k : Nat) (hk : xs.length < k) : laws_eqCmdS.f k xs xs = some true := by
  unfold laws_eqCmdS.f
  rw [if_pos rfl]
  exact eqCmdS_l xs hb xs.length 0 k (by omega) hk

theorem szCmdS_eq (xs : List S23) (h : xs.length * 24 ≤ 140737488351232) : laws_szCmdS.f xs 1048576 = some (if xs.length ≤ 1048576 then 1048576 - (xs.length : Int) else -1) := by
  unfold laws_szCmdS.f
  rw [w64 (by omega) (by omega)]
  by_cases h1 : xs.length ≤ 1048576
  · rw [if_pos h1, if_neg (by omega)]
  · rw [if_neg h1, if_pos (by omega)]

theorem str_append (xs ys : List Int) : strOfNums (xs ++ ys) = strOfNums xs ++ strOfNums ys := by
  apply ByteArray.ext
  simp [strOfNums]
theorem str_bytesOf (s : ByteArray) : strOfNums (bytesOf s) = s := by
  apply ByteArray.ext
  simp only [strOfNums, bytesOf, List.map_map]
  have : s.data.toList.map ((fun n : Int => UInt8.ofNat n.toNat) ∘ fun b : UInt8 => (b.toNat : Int)) = s.data.toList := by
    rw [List.map_congr_left (g := id) (fun b _ => by simp), List.map_id]
  rw [this]

/-! a journal, written -/
theorem linkV_size (s a b c : Int) : (linkV s a b c).1.size ≤ 6 := by
  unfold linkV
  split
  · simp [rec6, frm_size, two_size, ByteArray.size_append]
  · exact Nat.zero_le _
theorem linkV_rng (s a b c : Int) (h : (linkV s a b c).2.2 = true) : 0 ≤ (linkV s a b c).2.1 ∧ (linkV s a b c).2.1 ≤ 65535 := by
  unfold linkV at h ⊢
  split
  · rename_i h1
    have := lsum_rng (frm a b c) s h1.2
    simp only
    omega
  · rename_i h1; rw [if_neg h1] at h; cases h
theorem journalOf_l (xs : List S26) (hb : xs.length ≤ 200) : ∀ (d i k : Nat) (acc : List Int) (s : Int), i + d = xs.length → d + 7 ≤ k → acc.length ≤ 6 * i →
    ∃ r, spec_JournalOf.l0 k xs acc s (i : Int) = some r ∧ impl_JournalOf.l0 k (strOfNums acc) s xs (xs.length : Int) (i : Int) = some r := by
  intro d
  induction d with
  | zero =>
    intro i k acc s h hk _
    obtain ⟨k, rfl⟩ := ksucc (show 0 < k by omega)
    rw [spec_JournalOf.l0, impl_JournalOf.l0, if_neg (by omega), if_neg (by omega)]
    exact ⟨_, rfl, rfl⟩
  | succ d ih =>
    intro i k acc s h hk ha
    obtain ⟨k, rfl⟩ := ksucc (show 0 < k by omega)
    have hi : i < xs.length := by omega
    rw [spec_JournalOf.l0, impl_JournalOf.l0, if_pos (by omega), if_pos (by omega), if_pos (by omega), if_pos (by omega), if_pos (by omega), rdI xs i hi, specLink_ev _ _ _ _ _ (by omega), implLink_ev _ _ _ _ _ (by omega), wnat (i := i) (by omega)]
    simp only [Option.bind_some]
    have hz := linkV_size s xs[i].f0 xs[i].f1 xs[i].f2
    generalize linkV s xs[i].f0 xs[i].f1 xs[i].f2 = v at hz ⊢
    have hsz : (strOfNums acc).size = acc.length := by simp [strOfNums, ByteArray.size]
    by_cases hv : v.2.2 = true
    · rw [if_pos hv, if_pos hv, if_pos (by omega), if_pos (by omega)]
      obtain ⟨r, h1, h2⟩ := ih (i + 1) k (acc ++ bytesOf v.1) v.2.1 (by omega) (by omega) (by rw [List.length_append, bytesOf_length]; omega)
      rw [str_append, str_bytesOf] at h2
      exact ⟨r, h1, h2⟩
    · rw [if_neg hv, if_neg hv]
      exact ⟨_, rfl, rfl⟩
theorem journalOf_ev (xs : List S26) (k : Nat) (hk : xs.length + 7 ≤ k) : ∃ r, spec_JournalOf.f k xs = some r ∧ impl_JournalOf.f k xs = some r := by
  unfold spec_JournalOf.f impl_JournalOf.f
  by_cases h : (xs.length : Int) > 200
  · rw [if_pos h, if_pos h]; exact ⟨_, rfl, rfl⟩
  · rw [if_neg h, if_neg h]
    exact journalOf_l xs (by omega) xs.length 0 k [] 1 (by omega) hk (by simp)

theorem FnExactJournalOf : OpFnExactJournalOf.Pure := by
  intro xs ⟨hw, _⟩
  refine ⟨xs.length + 8, ?_⟩
  unfold laws_FnExactJournalOf.f
  rw [szCmdS_eq xs hw]
  simp only [Option.bind_some]
  by_cases h1 : xs.length ≤ 1048576
  · rw [if_pos h1, if_neg (by omega)]
    rw [toCmdS_ev xs h1 _ (by omega)]
    simp only [Option.bind_some]
    obtain ⟨r, e1, e2⟩ := journalOf_ev (xs.map cv) (xs.length + 8) (by simp)
    rw [e1, e2]
    simp only [Option.bind_some]
    rw [if_pos trivial, show xs.length + 8 = xs.length + 7 + 1 from rfl, laws_FnExactJournalOf.j0, if_neg (by simp), toCmdS_ev xs h1 _ (by omega)]
    simp only [Option.bind_some]
    rw [eqCmdS_ev _ (by simpa using h1) _ (by simp)]
    simp
  · rw [if_neg h1]; rfl

end Go.Proofs.Ytpkffapjplebgaa.Pure
