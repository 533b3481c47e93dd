/- The law FnExactJournalIn over numbers and lists alone: it answers true for every input; no condition beside the bounds of the kinds. -/
import Derived.Test.YtpkffapjplebgaaPFnExactJournalInx
namespace Go.Proofs.Ytpkffapjplebgaa.Pure
open Go.RowKit Go.Proofs.Ytpkffapjplebgaa.PFnExactJournalIn Go.Proofs.YtpkffapjplebgaaW.PrintWords Go.Proofs.YtpkffapjplebgaaW.PrintLast
set_option linter.unusedVariables false
set_option linter.unusedSimpArgs false

theorem w64 {x : Int} (h1 : -9223372036854775808 ≤ x) (h2 : x ≤ 9223372036854775807) : wrap64 x = x := by unfold wrap64; omega
theorem wnat {i : Nat} (h : i < 4611686018427387904) : wrap64 ((i : Int) + 1) = ((i + 1 : Nat) : Int) := by unfold wrap64; omega
theorem ksucc {k d : Nat} (h : d < k) : ∃ m, k = m + 1 := ⟨k - 1, by omega⟩

/-! frames -/
theorem l01In_eq (a b c : Int) : spec_l01In.f a b c = some (decide (b ≤ a ∧ a ≤ c)) := by
  unfold spec_l01In.f
  by_cases h : a ≥ b
  · rw [if_pos h]; simp [show b ≤ a from h]
  · rw [if_neg h]; simp [show ¬ b ≤ a from h]
def okF (a b c : Int) : Prop := (0 ≤ a ∧ a ≤ 250) ∧ (0 ≤ b ∧ b ≤ 250) ∧ (0 ≤ c ∧ c ≤ 250)
instance (a b c : Int) : Decidable (okF a b c) := by unfold okF; infer_instance
def frm (a b c : Int) : ByteArray := strOfNums [a % 256, b % 256, c % 256, Int.tmod (wrap64 (wrap64 (a + wrap64 (3 * b)) + wrap64 (7 * c))) 251 % 256]
theorem frm_size (a b c : Int) : (frm a b c).size = 4 := by simp [frm, strOfNums, ByteArray.size]
theorem specFrame_eq (a b c : Int) : spec_FrameOf.f a b c = some (if okF a b c then (frm a b c, true) else ((⟨#[]⟩ : ByteArray), false)) := by
  unfold spec_FrameOf.f
  simp only [l01In_eq, Option.bind_some, decide_eq_true_eq]
  by_cases h1 : 0 ≤ a ∧ a ≤ 250
  · rw [if_pos h1]
    by_cases h2 : 0 ≤ b ∧ b ≤ 250
    · rw [if_pos h2]
      by_cases h3 : 0 ≤ c ∧ c ≤ 250
      · rw [if_pos h3, if_pos (show okF a b c from ⟨h1, h2, h3⟩)]; rfl
      · rw [if_neg h3, if_neg (fun h : okF a b c => h3 h.2.2)]
    · rw [if_neg h2, if_neg (fun h : okF a b c => h2 h.2.1)]
  · rw [if_neg h1, if_neg (fun h : okF a b c => h1 h.1)]
theorem implFrame_eq (a b c : Int) : impl_FrameOf.f a b c = spec_FrameOf.f a b c := rfl

/-! records -/
def stp (f : ByteArray) (i : Int) (s : Int) : Int := Int.tmod (wrap64 (wrap64 (wrap64 (31 * s) + wrap64 (bt f i)) + 7)) 65521
theorem stp_rng (f : ByteArray) (i s : Int) (h : 0 ≤ s ∧ s ≤ 65535) : 0 ≤ stp f i s ∧ stp f i s ≤ 65520 := by
  have hb := bt_range f i
  unfold stp
  rw [w64 (x := 31 * s) (by omega) (by omega), w64 (x := bt f i) (by omega) (by omega), w64 (x := 31 * s + bt f i) (by omega) (by omega), w64 (by omega) (by omega), Int.tmod_eq_emod_of_nonneg (by omega)]
  omega
def lsum (f : ByteArray) (s : Int) : Int := stp f 3 (stp f 2 (stp f 1 (stp f 0 s)))
theorem lsum_rng (f : ByteArray) (s : Int) (h : 0 ≤ s ∧ s ≤ 65535) : 0 ≤ lsum f s ∧ lsum f s ≤ 65520 := by
  have h0 := stp_rng f 0 s h
  have h1 := stp_rng f 1 (stp f 0 s) (by omega)
  have h2 := stp_rng f 2 (stp f 1 (stp f 0 s)) (by omega)
  exact stp_rng f 3 (stp f 2 (stp f 1 (stp f 0 s))) (by omega)
def rec6 (f : ByteArray) (s : Int) : ByteArray := f ++ strOfNums [(lsum f s / 256) % 256, lsum f s % 256]
theorem two_size (a b : Int) : (strOfNums [a, b]).size = 2 := by simp [strOfNums, ByteArray.size]
theorem specLink_step (k : Nat) (s : Int) (f : ByteArray) (i : Int) (hf : f.size = 4) (h0 : 0 ≤ i) (h4 : i < 4) : spec_LinkOf.l0 (k + 1) s f i = spec_LinkOf.l0 k (stp f i s) f (i + 1) := by
  rw [spec_LinkOf.l0, if_pos h4, if_pos h0, if_pos (by omega), w64 (x := i + 1) (by omega) (by omega)]
  rfl
theorem implLink_step (k : Nat) (s : Int) (f : ByteArray) (i : Int) (hf : f.size = 4) (h0 : 0 ≤ i) (h4 : i < 4) : impl_LinkOf.l0 (k + 1) s f i = impl_LinkOf.l0 k (stp f i s) f (i + 1) := by
  rw [impl_LinkOf.l0, if_pos (by omega), if_pos h0, w64 (x := i + 1) (by omega) (by omega)]
  rfl
theorem specLink_l (f : ByteArray) (s : Int) (hf : f.size = 4) (hs : 0 ≤ s ∧ s ≤ 65535) (k : Nat) : spec_LinkOf.l0 (k + 5) s f 0 = some (rec6 f s, lsum f s, true) := by
  have hl := lsum_rng f s hs
  rw [specLink_step _ _ _ _ hf (by omega) (by omega), specLink_step _ _ _ _ hf (by omega) (by omega), specLink_step _ _ _ _ hf (by omega) (by omega), specLink_step _ _ _ _ hf (by omega) (by omega)]
  have e : stp f (0 + 1 + 1 + 1) (stp f (0 + 1 + 1) (stp f (0 + 1) (stp f 0 s))) = lsum f s := rfl
  rw [e, spec_LinkOf.l0, if_neg (by omega)]
  simp only [Option.bind_some]
  rw [if_pos (by rw [hf, two_size]; omega), w64 (by rw [Int.tdiv_eq_ediv_of_nonneg (by omega)]; omega) (by rw [Int.tdiv_eq_ediv_of_nonneg (by omega)]; omega), Int.tdiv_eq_ediv_of_nonneg (by omega), Int.tmod_eq_emod_of_nonneg (by omega), Int.emod_emod_of_dvd _ (Int.dvd_refl 256)]
  rfl
theorem implLink_l (f : ByteArray) (s : Int) (hf : f.size = 4) (hs : 0 ≤ s ∧ s ≤ 65535) (k : Nat) : impl_LinkOf.l0 (k + 5) s f 0 = some (rec6 f s, lsum f s, true) := by
  have hl := lsum_rng f s hs
  rw [implLink_step _ _ _ _ hf (by omega) (by omega), implLink_step _ _ _ _ hf (by omega) (by omega), implLink_step _ _ _ _ hf (by omega) (by omega), implLink_step _ _ _ _ hf (by omega) (by omega)]
  have e : stp f (0 + 1 + 1 + 1) (stp f (0 + 1 + 1) (stp f (0 + 1) (stp f 0 s))) = lsum f s := rfl
  rw [e, impl_LinkOf.l0, if_neg (by omega)]
  simp only [Option.bind_some]
  rw [if_pos (by rw [hf, two_size]; omega)]
  rfl
def linkV (s a b c : Int) : ByteArray × Int × Bool := if okF a b c ∧ 0 ≤ s ∧ s ≤ 65535 then (rec6 (frm a b c) s, lsum (frm a b c) s, true) else ((⟨#[]⟩ : ByteArray), 0, false)
theorem specLink_ev (s a b c : Int) (k : Nat) (hk : 6 ≤ k) : spec_LinkOf.f k s a b c = some (linkV s a b c) := by
  obtain ⟨k, rfl⟩ : ∃ m, k = m + 5 + 1 := ⟨k - 6, by omega⟩
  unfold spec_LinkOf.f linkV
  rw [specFrame_eq]
  simp only [Option.bind_some]
  by_cases h1 : okF a b c
  · rw [if_pos h1, if_pos rfl, l01In_eq]
    simp only [Option.bind_some]
    rw [spec_LinkOf.j0]
    by_cases h2 : 0 ≤ s ∧ s ≤ 65535
    · rw [if_neg (by simp [h2]), if_pos ⟨h1, h2⟩]
      exact specLink_l _ s (frm_size a b c) h2 k
    · rw [if_pos (by simp; omega), if_neg (fun h => h2 h.2)]
  · rw [if_neg h1, if_neg (by simp), spec_LinkOf.j0, if_pos rfl, if_neg (fun h => h1 h.1)]
theorem implLink_ev (s a b c : Int) (k : Nat) (hk : 6 ≤ k) : impl_LinkOf.f k s a b c = some (linkV s a b c) := by
  obtain ⟨k, rfl⟩ : ∃ m, k = m + 5 + 1 := ⟨k - 6, by omega⟩
  unfold impl_LinkOf.f linkV
  rw [implFrame_eq, specFrame_eq]
  simp only [Option.bind_some]
  by_cases h2 : s < 0
  · rw [if_pos h2, impl_LinkOf.j0, if_pos rfl, if_neg (fun h => by omega)]
  rw [if_neg h2]
  by_cases h3 : s > 65535
  · rw [if_pos h3, impl_LinkOf.j0, if_pos rfl, if_neg (fun h => by omega)]
  rw [if_neg h3, impl_LinkOf.j0]
  by_cases h1 : okF a b c
  · simp only [if_pos h1]
    rw [if_neg (by simp), if_pos ⟨h1, by omega⟩]
    exact implLink_l _ s (frm_size a b c) (by omega) k
  · simp only [if_neg h1]
    rw [if_pos (by simp), if_neg (fun h => h1 h.1)]

theorem rdI (xs : List S26) (i : Nat) (h : i < xs.length) : rd_T26 xs (i : Int) = xs[i] := by simp [rd_T26, List.getD, h]
theorem eqCmd_refl (a b c : Int) : laws_eqCmd.f a b c a b c = some true := by simp [laws_eqCmd.f]
theorem eqCmdS_l (xs : List S26) (hb : xs.length ≤ 1048576) : ∀ (d i k : Nat), i + d = xs.length → d < k → laws_eqCmdS.l0 k xs xs (i : Int) = some true := by
  intro d
  induction d with
  | zero =>
    intro i k h hk
    obtain ⟨k, rfl⟩ := ksucc hk
    simp only [laws_eqCmdS.l0]
    rw [if_neg (by omega)]
  | succ d ih =>
    intro i k h hk
    obtain ⟨k, rfl⟩ := ksucc hk
    simp only [laws_eqCmdS.l0, eqCmd_refl, Option.bind_some]
    rw [if_pos (by omega), if_pos (by omega), if_pos (by omega), if_pos trivial, wnat (by omega)]
    exact ih (i + 1) k (by omega) (by omega)
theorem eqCmdS_ev (xs : List S26) (hb : xs.length ≤ 1048576) (k : Nat) (hk : xs.length < k) : laws_eqCmdS.f k xs xs = some true := by
  unfold laws_eqCmdS.f
  rw [if_pos rfl]
  exact eqCmdS_l xs hb xs.length 0 k (by omega) hk

theorem implCmdIn_eq (s : ByteArray) : impl_CmdIn.f s = spec_CmdIn.f s := rfl
theorem cmdIn_some (s : ByteArray) : ∃ r, spec_CmdIn.f s = some r := by
  unfold spec_CmdIn.f
  simp only [specFrame_eq, Option.bind_some]
  by_cases h : (s.size : Int) = 4
  · rw [if_pos h, if_pos (by omega), if_pos (by omega), if_pos (by omega)]
    repeat' split
    all_goals exact ⟨_, rfl⟩
  · rw [if_neg h]; exact ⟨_, rfl⟩

/-! a journal, read -/
theorem cmdIn_eq (s : ByteArray) (h : s.size = 4) : spec_CmdIn.f s = some (if okF (bt s 0) (bt s 1) (bt s 2) ∧ (frm (bt s 0) (bt s 1) (bt s 2)).toList = s.toList then (bt s 0, bt s 1, bt s 2, true) else (0, 0, 0, false)) := by
  have h0 := bt_range s 0
  have h1 := bt_range s 1
  have h2 := bt_range s 2
  unfold spec_CmdIn.f
  rw [if_pos (by omega), if_pos (by omega), if_pos (by omega), if_pos (by omega), w64 (x := bt s 0) (by omega) (by omega), w64 (x := bt s 1) (by omega) (by omega), w64 (x := bt s 2) (by omega) (by omega), specFrame_eq]
  simp only [Option.bind_some]
  by_cases hk : okF (bt s 0) (bt s 1) (bt s 2)
  · simp only [if_pos hk]
    rw [if_pos trivial]
    by_cases he : (frm (bt s 0) (bt s 1) (bt s 2)).toList = s.toList
    · rw [if_pos he, if_pos ⟨hk, he⟩]
    · rw [if_neg he, if_neg (fun g => he g.2)]
  · simp only [if_neg hk]
    rw [if_neg (by simp), if_neg (fun g => hk g.1)]
theorem toList_inj {a b : ByteArray} (h : a.toList = b.toList) : a = b := by
  apply ByteArray.ext
  rw [ByteArray.toList_eq, ByteArray.toList_eq] at h
  exact Array.toList_inj.1 h
theorem str_size (xs : List Int) : (strOfNums xs).size = xs.length := by simp [strOfNums, ByteArray.size]
theorem bt_str (xs : List Int) (i : Nat) (h : i < xs.length) (hr : 0 ≤ xs[i] ∧ xs[i] ≤ 255) : bt (strOfNums xs) (i : Int) = xs[i] := by
  have hs : (i : Int).toNat < (strOfNums xs).size := by rw [str_size]; omega
  unfold bt
  rw [dif_pos hs]
  show (((strOfNums xs).data[(i : Int).toNat]'hs).toNat : Int) = _
  simp only [strOfNums, List.getElem_toArray, List.getElem_map, Int.toNat_natCast]
  rw [UInt8.toNat_ofNat']
  omega
theorem bt_frm0 (a b c : Int) (h : okF a b c) : bt (frm a b c) 0 = a ∧ bt (frm a b c) 1 = b ∧ bt (frm a b c) 2 = c := by
  obtain ⟨⟨a1, a2⟩, ⟨b1, b2⟩, c1, c2⟩ := h
  unfold frm
  refine ⟨?_, ?_, ?_⟩
  · refine (bt_str _ 0 (by simp) (by simp; omega)).trans ?_
    simp; omega
  · refine (bt_str _ 1 (by simp) (by simp; omega)).trans ?_
    simp; omega
  · refine (bt_str _ 2 (by simp) (by simp; omega)).trans ?_
    simp; omega
theorem okF0 : okF 0 0 0 := by unfold okF; omega
theorem extract_take (s : ByteArray) (i : Nat) (h : i + 6 ≤ s.size) : s.extract i (i + 4) = (s.extract i (i + 6)).extract 0 4 := by
  apply ByteArray.ext
  simp [Nat.min_eq_left, ByteArray.data_extract, Array.extract_extract]
/-- A record that stands in the text begins with a frame that CmdIn takes. -/
theorem stands (t : ByteArray) (i : Nat) (h : i + 6 ≤ t.size) (a b c s : Int) (hk : okF a b c) (he : (rec6 (frm a b c) s).toList = (t.extract i (i + 6)).toList) :
    spec_CmdIn.f (t.extract i (i + 4)) = some (a, b, c, true) := by
  have e1 := toList_inj he
  have e2 : t.extract i (i + 4) = frm a b c := by
    rw [extract_take t i h, ← e1]
    unfold rec6
    apply ByteArray.ext
    have hz : (frm a b c).data.size = 4 := frm_size a b c
    simp [ByteArray.data_extract, ByteArray.data_append, Array.extract_append, hz]
  rw [e2, cmdIn_eq _ (frm_size a b c)]
  obtain ⟨g0, g1, g2⟩ := bt_frm0 a b c hk
  rw [g0, g1, g2, if_pos ⟨hk, rfl⟩]
theorem read_l (t : ByteArray) (hb : t.size ≤ 2000) : ∀ (d i k : Nat) (acc : List S26) (s : Int), t.size ≤ i + d → i ≤ t.size → 2 * d + 10 ≤ k → acc.length ≤ i → 0 ≤ s ∧ s ≤ 65535 →
    ∃ (l : List S26) (at_ s' : Int), spec_l32Read.l0 k t acc s (i : Int) = some (l, at_, s') ∧ impl_journalIn.l0 k t acc (i : Int) s = some (l, at_, s') ∧ 0 ≤ at_ ∧ at_ ≤ t.size ∧ 0 ≤ s' ∧ s' ≤ 65535 ∧ l.length ≤ at_ := by
  intro d
  induction d with
  | zero =>
    intro i k acc s h1 h2 hk ha hs
    obtain ⟨k, rfl⟩ := ksucc (show 0 < k by omega)
    obtain ⟨k, rfl⟩ := ksucc (show 0 < k by omega)
    rw [spec_l32Read.l0, impl_journalIn.l0, w64 (by omega) (by omega), if_neg (by omega), if_neg (by omega), spec_l32Read.j1, impl_journalIn.j1, if_neg (by simp), if_neg (by simp)]
    exact ⟨acc, i, s, rfl, rfl, by omega, by omega, by omega, by omega, by omega⟩
  | succ d ih =>
    intro i k acc s h1 h2 hk ha hs
    obtain ⟨k, rfl⟩ := ksucc (show 0 < k by omega)
    obtain ⟨k, rfl⟩ := ksucc (show 0 < k by omega)
    have stop : ∀ f g : Option (List S26 × Int × Int), f = some (acc, (i : Int), s) → g = some (acc, (i : Int), s) → ∃ (l : List S26) (at_ s' : Int), f = some (l, at_, s') ∧ g = some (l, at_, s') ∧ 0 ≤ at_ ∧ at_ ≤ t.size ∧ 0 ≤ s' ∧ s' ≤ 65535 ∧ l.length ≤ at_ :=
      fun f g hf hg => ⟨acc, i, s, hf, hg, by omega, by omega, by omega, by omega, by omega⟩
    rw [spec_l32Read.l0, impl_journalIn.l0, w64 (x := (i : Int) + 6) (by omega) (by omega)]
    by_cases h6 : (i : Int) + 6 ≤ t.size
    · rw [if_pos h6, if_pos h6, spec_l32Read.j1, impl_journalIn.j1]
      by_cases hl : decide ((acc.length : Int) < 200) = true
      · rw [if_pos hl, if_pos hl, w64 (x := (i : Int) + 4) (by omega) (by omega), w64 (x := (i : Int) + 6) (by omega) (by omega), if_pos (by omega), if_pos (by omega), if_pos (by omega), if_pos (by omega), if_pos (by omega), if_pos (by omega)]
        have e4 : ((i : Int) + 4).toNat = i + 4 := by omega
        have e6 : ((i : Int) + 6).toNat = i + 6 := by omega
        have e0 : (i : Int).toNat = i := by omega
        rw [e4, e6, e0, implCmdIn_eq]
        have hz : (t.extract i (i + 4)).size = 4 := by rw [ByteArray.size_extract]; omega
        have hc := cmdIn_eq (t.extract i (i + 4)) hz
        by_cases hok : okF (bt (t.extract i (i + 4)) 0) (bt (t.extract i (i + 4)) 1) (bt (t.extract i (i + 4)) 2) ∧ (frm (bt (t.extract i (i + 4)) 0) (bt (t.extract i (i + 4)) 1) (bt (t.extract i (i + 4)) 2)).toList = (t.extract i (i + 4)).toList
        · rw [if_pos hok] at hc
          rw [hc]
          simp only [Option.bind_some]
          rw [if_pos trivial, specLink_ev _ _ _ _ _ (by omega), implLink_ev _ _ _ _ _ (by omega)]
          simp only [Option.bind_some]
          generalize bt (t.extract i (i + 4)) 0 = a at hok ⊢
          generalize bt (t.extract i (i + 4)) 1 = b at hok ⊢
          generalize bt (t.extract i (i + 4)) 2 = c at hok ⊢
          have hv : linkV s a b c = (rec6 (frm a b c) s, lsum (frm a b c) s, true) := if_pos ⟨hok.1, hs⟩
          rw [hv]
          simp only
          by_cases he : (rec6 (frm a b c) s).toList = (t.extract i (i + 6)).toList
          · rw [if_pos trivial, if_pos (by omega), if_pos (by omega), if_pos he, if_pos (by omega), if_pos (by omega), if_pos (by omega), if_pos he, if_pos (by omega)]
            have hr := lsum_rng (frm a b c) s hs
            have := ih (i + 6) k (acc ++ [(⟨a, b, c⟩ : S26)]) (lsum (frm a b c) s) (by omega) (by omega) (by omega) (by simp; omega) (by omega)
            have e : ((i + 6 : Nat) : Int) = (i : Int) + 6 := by omega
            rw [e] at this
            exact this
          · rw [if_pos trivial, if_pos (by omega), if_pos (by omega), if_neg he, if_pos (by omega), if_pos (by omega), if_neg he]
            exact stop _ _ rfl rfl
        · rw [if_neg hok] at hc
          rw [hc]
          simp only [Option.bind_some]
          rw [if_neg (by simp), implLink_ev _ _ _ _ _ (by omega)]
          simp only [Option.bind_some]
          have hv : linkV s 0 0 0 = (rec6 (frm 0 0 0) s, lsum (frm 0 0 0) s, true) := if_pos ⟨okF0, hs⟩
          rw [hv]
          simp only
          rw [if_pos trivial, if_pos (by omega), if_pos (by omega)]
          by_cases he : (rec6 (frm 0 0 0) s).toList = (t.extract i (i + 6)).toList
          · have := stands t i (by omega) 0 0 0 s okF0 he
            rw [hc] at this
            simp at this
          · rw [if_neg he]
            exact stop _ _ rfl rfl
      · rw [if_neg hl, if_neg hl]
        exact stop _ _ rfl rfl
    · rw [if_neg h6, if_neg h6, spec_l32Read.j1, impl_journalIn.j1, if_neg (by simp), if_neg (by simp)]
      exact stop _ _ rfl rfl

/-! marks -/
def marked (n : Nat) : Nat → List S26
  | 0 => []
  | m + 1 => ⟨1 + 3 * n, 2 + 3 * n, 3 + 3 * n⟩ :: marked (n + 1) m
theorem marked_length : ∀ (m n : Nat), (marked n m).length = m
  | 0, _ => rfl
  | m + 1, n => by simp [marked, marked_length m (n + 1)]
theorem marked_get : ∀ (m n i : Nat) (h : i < (marked n m).length), (marked n m)[i] = ⟨1 + 3 * (n + i : Nat), 2 + 3 * (n + i : Nat), 3 + 3 * (n + i : Nat)⟩
  | 0, _, _, h => by simp [marked] at h
  | m + 1, n, 0, _ => by simp [marked]
  | m + 1, n, i + 1, h => by
    have := marked_get m (n + 1) i (by simpa [marked] using h)
    simp only [marked, List.getElem_cons_succ, this]
    have e : n + 1 + i = n + (i + 1) := by omega
    rw [e]
theorem marked_snoc (m n : Nat) : marked n (m + 1) = marked n m ++ [⟨1 + 3 * (n + m : Nat), 2 + 3 * (n + m : Nat), 3 + 3 * (n + m : Nat)⟩] := by
  induction m generalizing n with
  | zero => simp [marked]
  | succ m ih =>
    have e : n + 1 + m = n + (m + 1) := by omega
    rw [marked, ih (n + 1), e]
    rfl
theorem markCmdS_l (xs : List S26) (hb : xs.length ≤ 1048576) : ∀ (d i k : Nat), i + d = xs.length → d < k →
    laws_markCmdS.l0 k (marked 0 i ++ xs.drop i) (1 + 3 * (i : Int)) (i : Int) = some (1 + 3 * (xs.length : Int), marked 0 xs.length) := by
  intro d
  induction d with
  | zero =>
    intro i k h hk
    obtain ⟨k, rfl⟩ := ksucc hk
    have e : i = xs.length := by omega
    subst e
    have hl : (marked 0 xs.length ++ xs.drop xs.length).length = xs.length := by simp [marked_length]
    rw [laws_markCmdS.l0, if_neg (by rw [hl]; omega)]
    simp
  | succ d ih =>
    intro i k h hk
    obtain ⟨k, rfl⟩ := ksucc hk
    have hi : i < xs.length := by omega
    have hl : (marked 0 i ++ xs.drop i).length = xs.length := by simp [marked_length]; omega
    have hml := marked_length i 0
    rw [laws_markCmdS.l0, if_pos (by rw [hl]; omega), if_pos (by omega)]
    simp only [Option.bind_some]
    have e0 : (i : Int).toNat = i := by omega
    rw [e0, w64 (x := 1 + 3 * (i : Int) + 1) (by omega) (by omega), w64 (x := 1 + 3 * (i : Int) + 1 + 1) (by omega) (by omega), w64 (x := 1 + 3 * (i : Int) + 1 + 1 + 1) (by omega) (by omega), wnat (i := i) (by omega)]
    rw [List.drop_eq_getElem_cons hi]
    have put : ∀ (y z : S26) (r : List S26), (marked 0 i ++ y :: r).set i z = marked 0 i ++ z :: r := by
      intro y z r
      rw [List.set_append_right _ _ (by omega), hml, Nat.sub_self, List.set_cons_zero]
    have get : ∀ (y : S26) (r : List S26), rd_T26 (marked 0 i ++ y :: r) (i : Int) = y := by
      intro y r
      simp [rd_T26, List.getD, List.getElem?_append_right, hml]
    simp only [put, get]
    have hs := marked_snoc i 0
    have e1 : marked 0 i ++ (⟨1 + 3 * (i : Int), 1 + 3 * (i : Int) + 1, 1 + 3 * (i : Int) + 1 + 1⟩ : S26) :: xs.drop (i + 1) = marked 0 (i + 1) ++ xs.drop (i + 1) := by
      rw [hs, List.append_assoc]
      simp
      omega
    have e2 : (1 + 3 * (i : Int) + 1 + 1 + 1) = 1 + 3 * ((i + 1 : Nat) : Int) := by omega
    rw [e1, e2]
    exact ih (i + 1) k (by omega) (by omega)
theorem markCmdS_ev (xs : List S26) (hb : xs.length ≤ 1048576) (k : Nat) (hk : xs.length < k) : laws_markCmdS.f k xs 1 = some (1 + 3 * (xs.length : Int), marked 0 xs.length) := by
  have := markCmdS_l xs hb xs.length 0 k (by omega) hk
  simpa [laws_markCmdS.f, marked] using this

theorem heldCmdS_l (n : Nat) (hb : n ≤ 1048576) : ∀ (d i k : Nat), i + d = n → d < k →
    laws_heldCmdS.l0 k (marked 0 n) (1 + 3 * (i : Int)) (i : Int) = some (1 + 3 * (n : Int)) := by
  intro d
  have hml := marked_length n 0
  induction d with
  | zero =>
    intro i k h hk
    obtain ⟨k, rfl⟩ := ksucc hk
    rw [laws_heldCmdS.l0, if_neg (by omega)]
    have e : i = n := by omega
    rw [e]
  | succ d ih =>
    intro i k h hk
    obtain ⟨k, rfl⟩ := ksucc hk
    rw [laws_heldCmdS.l0, if_pos (by omega), if_pos (by omega), rdI _ i (by omega), marked_get]
    rw [w64 (x := 1 + 3 * (i : Int) + 1) (by omega) (by omega), w64 (x := 1 + 3 * (i : Int) + 1 + 1) (by omega) (by omega), w64 (x := 1 + 3 * (i : Int) + 1 + 1 + 1) (by omega) (by omega), wnat (i := i) (by omega)]
    simp only
    rw [if_pos (by omega), if_pos (by omega), if_pos (by omega)]
    have e2 : (1 + 3 * (i : Int) + 1 + 1 + 1) = 1 + 3 * ((i + 1 : Nat) : Int) := by omega
    rw [e2]
    exact ih (i + 1) k (by omega) (by omega)
theorem heldCmdS_ev (n : Nat) (hb : n ≤ 1048576) (k : Nat) (hk : n < k) : laws_heldCmdS.f k (marked 0 n) 1 = some (1 + 3 * (n : Int)) := by
  have := heldCmdS_l n hb n 0 k (by omega) hk
  simpa [laws_heldCmdS.f] using this

theorem FnExactJournalIn : laws_FnExactJournalIn.Pure := by
  intro t _
  refine ⟨2 * t.size + 20, ?_⟩
  unfold laws_FnExactJournalIn.f
  by_cases h : (t.size : Int) > 1048576
  · rw [if_pos h]
  rw [if_neg h]
  obtain ⟨r, n, e1, e2, hr, e3⟩ : ∃ (r : List S26) (n : Int), spec_JournalIn.f (2 * t.size + 20) t = some (r, n) ∧ impl_JournalIn.f (2 * t.size + 20) t = some (r, n) ∧ r.length ≤ t.size ∧ impl_JournalIn.f (2 * t.size + 20 - 1) t = some (r, n) := by
    unfold spec_JournalIn.f impl_JournalIn.f spec_l32Read.f impl_journalIn.f
    simp only [Option.bind_some]
    by_cases h2 : (t.size : Int) > 2000
    · rw [if_pos h2, if_pos h2, if_pos h2]; exact ⟨[], 0, rfl, rfl, by simp, rfl⟩
    · rw [if_neg h2, if_neg h2, if_neg h2]
      obtain ⟨l, a, s, g1, g2, g3, g4, _, _, g5⟩ := read_l t (by omega) t.size 0 (2 * t.size + 20) [] 1 (by omega) (by omega) (by omega) (by simp) (by omega)
      obtain ⟨l', a', s', f1, f2, _⟩ := read_l t (by omega) t.size 0 (2 * t.size + 20 - 1) [] 1 (by omega) (by omega) (by omega) (by simp) (by omega)
      have same : some (l', a', s') = some (l, a, s) := by
        have m := at_rounds (g := fun k => impl_journalIn.f k t) (fun k => impl_journalIn.mono t k) (show 2 * t.size + 20 - 1 ≤ 2 * t.size + 20 by omega) (r := (l', a', s')) f2
        exact m.symm.trans g2
      obtain ⟨rfl, rfl, rfl⟩ : l' = l ∧ a' = a ∧ s' = s := by simpa using same
      have e : ((0 : Nat) : Int) = 0 := rfl
      rw [e] at g1 g2 f2
      rw [g1, g2, f2]
      exact ⟨l', a', rfl, rfl, by omega, rfl⟩
  rw [e1, e2]
  simp only [Option.bind_some]
  rw [eqCmdS_ev r (by omega) _ (by omega)]
  simp only [Option.bind_some]
  rw [if_pos trivial, show 2 * t.size + 20 = 2 * t.size + 19 + 1 from rfl, laws_FnExactJournalIn.j0, if_neg (by simp)]
  have e3' : impl_JournalIn.f (2 * t.size + 19) t = some (r, n) := e3
  rw [markCmdS_ev r (by omega) _ (by omega)]
  simp only [Option.bind_some]
  rw [heldCmdS_ev _ (by omega) _ (by omega)]
  simp only [Option.bind_some]
  rw [if_neg (by omega), if_pos trivial, e3']
  simp only [Option.bind_some]
  rw [eqCmdS_ev r (by omega) _ (by omega)]
  simp only [Option.bind_some]
  rw [if_pos trivial, show 2 * t.size + 19 = 2 * t.size + 18 + 1 from rfl, laws_FnExactJournalIn.j1, if_neg (by simp), heldCmdS_ev _ (by omega) _ (by omega)]
  simp only [Option.bind_some]
  rw [if_neg (by omega), if_pos trivial]

end Go.Proofs.Ytpkffapjplebgaa.Pure
