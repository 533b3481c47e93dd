/- The law FnExactDemandsIn over numbers and lists alone: it answers true for every input; no condition beside the bounds of the kinds. -/
import Derived.Test.YtpkffapjplebgaaMFnExactDemandsInx
import Derived.Test.YtpkffapjplebgaaOpFnExactDemandsIn
namespace Go.Proofs.Ytpkffapjplebgaa.Pure
open Go.RowKit Go.Proofs.Ytpkffapjplebgaa.MFnExactDemandsIn Go.Proofs.YtpkffapjplebgaaW.PrintWords Go.Proofs.YtpkffapjplebgaaW.PrintLast Go.Proofs.Ytpkffapjplebgaa
set_option linter.unusedVariables false
set_option linter.unusedSimpArgs false

theorem w64 {x : Int} (h1 : -9223372036854775808 ≤ x) (h2 : x ≤ 9223372036854775807) : wrap64 x = x := by unfold wrap64; omega
theorem wnat {i : Nat} (h : i < 4611686018427387904) : wrap64 ((i : Int) + 1) = ((i + 1 : Nat) : Int) := by unfold wrap64; omega
theorem ksucc {k d : Nat} (h : d < k) : ∃ m, k = m + 1 := ⟨k - 1, by omega⟩

/-! frames -/
theorem l01In_eq (a b c : Int) : spec_l01In.f a b c = some (decide (b ≤ a ∧ a ≤ c)) := by
  unfold spec_l01In.f
  by_cases h : a ≥ b
  · rw [if_pos h]; simp [show b ≤ a from h]
  · rw [if_neg h]; simp [show ¬ b ≤ a from h]

/-! commands: made of what came in, compared, marked -/
def cv (y : S23) : S26 := ⟨y.f0, y.f1, y.f2⟩
theorem rdL (xs : List S23) (i : Nat) (h : i < xs.length) : rd_T23 xs (i : Int) = xs[i] := by simp [rd_T23, List.getD, h]
theorem rdI (xs : List S26) (i : Nat) (h : i < xs.length) : rd_T26 xs (i : Int) = xs[i] := by simp [rd_T26, List.getD, h]
theorem fill_step {α β : Type} (f : α → β) (z : β) (xs : List α) (i d : Nat) (h : i + (d + 1) = xs.length) (hi : i < xs.length) :
    ((xs.take i).map f ++ List.replicate (d + 1) z).set i (f xs[i]) = (xs.take (i + 1)).map f ++ List.replicate d z := by
  have hl : ((xs.take i).map f).length = i := by simp; omega
  rw [List.replicate_succ, List.set_append_right _ _ (by omega), hl, Nat.sub_self, List.set_cons_zero, List.take_succ_eq_append_getElem hi, List.map_append]
  simp
theorem toCmdS_l (xs : List S23) (hb : xs.length ≤ 1048576) : ∀ (d i k : Nat), i + d = xs.length → d < k →
    laws_toCmdS.l0 k xs ((xs.take i).map cv ++ List.replicate d z26) (i : Int) = some (xs.map cv) := by
  intro d
  induction d with
  | zero =>
    intro i k h hk
    obtain ⟨k, rfl⟩ := ksucc hk
    simp only [laws_toCmdS.l0]
    rw [if_neg (by omega), List.take_of_length_le (by omega)]
    simp
  | succ d ih =>
    intro i k h hk
    obtain ⟨k, rfl⟩ := ksucc hk
    have hi : i < xs.length := by omega
    simp only [laws_toCmdS.l0, laws_toCmd.f, Option.bind_some]
    rw [if_pos (by omega), if_pos (by omega), if_pos (by simp; omega), rdL xs i hi, wnat (by omega)]
    have e : (i : Int).toNat = i := by simp
    rw [e]
    exact (congrArg (fun z => laws_toCmdS.l0 k xs z ((i + 1 : Nat) : Int)) (fill_step cv z26 xs i d h hi)).trans (ih (i + 1) k (by omega) (by omega))
theorem toCmdS_ev (xs : List S23) (hb : xs.length ≤ 1048576) (k : Nat) (hk : xs.length < k) : laws_toCmdS.f k xs = some (xs.map cv) := by
  unfold laws_toCmdS.f
  rw [if_pos (by omega), if_pos (by omega)]
  have := toCmdS_l xs hb xs.length 0 k (by omega) hk
  simpa using this
theorem eqCmd_refl (a b c : Int) : laws_eqCmd.f a b c a b c = some true := by simp [laws_eqCmd.f]
theorem eqCmdS_l (xs : List S26) (hb : xs.length ≤ 1048576) : ∀ (d i k : Nat), i + d = xs.length → d < k → laws_eqCmdS.l0 k xs xs (i : Int) = some true := by
  intro d
  induction d with
  | zero =>
    intro i k h hk
    obtain ⟨k, rfl⟩ := ksucc hk
    simp only [laws_eqCmdS.l0]
    rw [if_neg (by omega)]
  | succ d ih =>
    intro i k h hk
    obtain ⟨k, rfl⟩ := ksucc hk
    simp only [laws_eqCmdS.l0, eqCmd_refl, Option.bind_some]
    rw [if_pos (by omega), if_pos (by omega), if_pos (by omega), if_pos trivial, wnat (by omega)]
    exact ih (i + 1) k (by omega) (by omega)
theorem eqCmdS_ev (xs : List S26) (hb : xs.length ≤ 1048576) (k : Nat) (hk : xs.length < k) : laws_eqCmdS.f k xs xs = some true := by
  unfold laws_eqCmdS.f
  rw [if_pos rfl]
  exact eqCmdS_l xs hb xs.length 0 k (by omega) hk

theorem szCmdS_eq (xs : List S23) (h : xs.length * 24 ≤ 140737488351232) : laws_szCmdS.f xs 1048576 = some (if xs.length ≤ 1048576 then 1048576 - (xs.length : Int) else -1) := by
  unfold laws_szCmdS.f
  rw [w64 (by omega) (by omega)]
  by_cases h1 : xs.length ≤ 1048576
  · rw [if_pos h1, if_neg (by omega)]
  · rw [if_neg h1, if_pos (by omega)]

/-! lists of numbers, compared and marked -/
theorem rdN (xs : List Int) (i : Nat) (h : i < xs.length) : rd xs (i : Int) = xs[i] := by simp [rd, List.getD, h]
theorem eqIntS_l (xs : List Int) (hb : xs.length ≤ 1048576) : ∀ (d i k : Nat), i + d = xs.length → d < k → laws_eqIntS.l0 k xs xs (i : Int) = some true := by
  intro d
  induction d with
  | zero =>
    intro i k h hk
    obtain ⟨k, rfl⟩ := ksucc hk
    rw [laws_eqIntS.l0, if_neg (by omega)]
  | succ d ih =>
    intro i k h hk
    obtain ⟨k, rfl⟩ := ksucc hk
    rw [laws_eqIntS.l0, if_pos (by omega), if_pos (by omega), if_pos (by omega), if_pos rfl, wnat (by omega)]
    exact ih (i + 1) k (by omega) (by omega)
theorem eqIntS_ev (xs : List Int) (hb : xs.length ≤ 1048576) (k : Nat) (hk : xs.length < k) : laws_eqIntS.f k xs xs = some true := by
  unfold laws_eqIntS.f
  rw [if_pos rfl]
  exact eqIntS_l xs hb xs.length 0 k (by omega) hk
def nums1 (n m : Nat) : List Int := (List.range' n m).map fun (i : Nat) => (i : Int)
theorem nums1_length (n m : Nat) : (nums1 n m).length = m := by simp [nums1]
theorem nums1_get (n m i : Nat) (h : i < (nums1 n m).length) : (nums1 n m)[i] = ((n + i : Nat) : Int) := by simp [nums1]
theorem nums1_snoc (n m : Nat) : nums1 n (m + 1) = nums1 n m ++ [((n + m : Nat) : Int)] := by simp [nums1, List.range'_concat]
theorem markIntS_l (xs : List Int) (n : Nat) (hn : n ≤ 100000000) (hb : xs.length ≤ 1048576) : ∀ (d i k : Nat), i + d = xs.length → d < k →
    laws_markIntS.l0 k (nums1 n i ++ xs.drop i) ((n + i : Nat) : Int) (i : Int) = some (((n + xs.length : Nat) : Int), nums1 n xs.length) := by
  intro d
  induction d with
  | zero =>
    intro i k h hk
    obtain ⟨k, rfl⟩ := ksucc hk
    have e : i = xs.length := by omega
    subst e
    have hl : (nums1 n xs.length ++ xs.drop xs.length).length = xs.length := by simp [nums1_length]
    rw [laws_markIntS.l0, if_neg (by rw [hl]; omega)]
    simp
  | succ d ih =>
    intro i k h hk
    obtain ⟨k, rfl⟩ := ksucc hk
    have hi : i < xs.length := by omega
    have hml := nums1_length n i
    have hl : (nums1 n i ++ xs.drop i).length = xs.length := by simp [hml]; omega
    rw [laws_markIntS.l0, if_pos (by rw [hl]; omega), if_pos (by omega)]
    have e0 : (i : Int).toNat = i := by omega
    rw [e0, wnat (i := n + i) (by omega), wnat (i := i) (by omega), List.drop_eq_getElem_cons hi, List.set_append_right _ _ (by omega), hml, Nat.sub_self, List.set_cons_zero]
    have e1 : nums1 n i ++ ((n + i : Nat) : Int) :: xs.drop (i + 1) = nums1 n (i + 1) ++ xs.drop (i + 1) := by rw [nums1_snoc, List.append_assoc]; rfl
    rw [e1]
    exact ih (i + 1) k (by omega) (by omega)
theorem markIntS_ev (xs : List Int) (n : Nat) (hn : n ≤ 100000000) (hb : xs.length ≤ 1048576) (k : Nat) (hk : xs.length < k) : laws_markIntS.f k xs (n : Int) = some (((n + xs.length : Nat) : Int), nums1 n xs.length) := by
  have := markIntS_l xs n hn hb xs.length 0 k (by omega) hk
  simpa [laws_markIntS.f, nums1] using this
theorem heldIntS_l (n m : Nat) (hn : n ≤ 100000000) (hb : m ≤ 1048576) : ∀ (d i k : Nat), i + d = m → d < k →
    laws_heldIntS.l0 k (nums1 n m) ((n + i : Nat) : Int) (i : Int) = some ((n + m : Nat) : Int) := by
  intro d
  have hml := nums1_length n m
  induction d with
  | zero =>
    intro i k h hk
    obtain ⟨k, rfl⟩ := ksucc hk
    have e : i = m := by omega
    subst e
    rw [laws_heldIntS.l0, if_neg (by omega)]
  | succ d ih =>
    intro i k h hk
    obtain ⟨k, rfl⟩ := ksucc hk
    rw [laws_heldIntS.l0, if_pos (by omega), if_pos (by omega), rdN _ i (by omega), nums1_get, if_pos rfl, wnat (i := n + i) (by omega), wnat (i := i) (by omega)]
    exact ih (i + 1) k (by omega) (by omega)
theorem heldIntS_ev (n m : Nat) (hn : n ≤ 100000000) (hb : m ≤ 1048576) (k : Nat) (hk : m < k) : laws_heldIntS.f k (nums1 n m) (n : Int) = some ((n + m : Nat) : Int) := by
  have := heldIntS_l n m hn hb m 0 k (by omega) hk
  simpa [laws_heldIntS.f] using this

/-! marks -/
def marked (n : Nat) : Nat → List S26
  | 0 => []
  | m + 1 => ⟨1 + 3 * n, 2 + 3 * n, 3 + 3 * n⟩ :: marked (n + 1) m
theorem marked_length : ∀ (m n : Nat), (marked n m).length = m
  | 0, _ => rfl
  | m + 1, n => by simp [marked, marked_length m (n + 1)]
theorem marked_get : ∀ (m n i : Nat) (h : i < (marked n m).length), (marked n m)[i] = ⟨1 + 3 * (n + i : Nat), 2 + 3 * (n + i : Nat), 3 + 3 * (n + i : Nat)⟩
  | 0, _, _, h => by simp [marked] at h
  | m + 1, n, 0, _ => by simp [marked]
  | m + 1, n, i + 1, h => by
    have := marked_get m (n + 1) i (by simpa [marked] using h)
    simp only [marked, List.getElem_cons_succ, this]
    have e : n + 1 + i = n + (i + 1) := by omega
    rw [e]
theorem marked_snoc (m n : Nat) : marked n (m + 1) = marked n m ++ [⟨1 + 3 * (n + m : Nat), 2 + 3 * (n + m : Nat), 3 + 3 * (n + m : Nat)⟩] := by
  induction m generalizing n with
  | zero => simp [marked]
  | succ m ih =>
    have e : n + 1 + m = n + (m + 1) := by omega
    rw [marked, ih (n + 1), e]
    rfl
theorem markCmdS_l (xs : List S26) (hb : xs.length ≤ 1048576) : ∀ (d i k : Nat), i + d = xs.length → d < k →
    laws_markCmdS.l0 k (marked 0 i ++ xs.drop i) (1 + 3 * (i : Int)) (i : Int) = some (1 + 3 * (xs.length : Int), marked 0 xs.length) := by
  intro d
  induction d with
  | zero =>
    intro i k h hk
    obtain ⟨k, rfl⟩ := ksucc hk
    have e : i = xs.length := by omega
    subst e
    have hl : (marked 0 xs.length ++ xs.drop xs.length).length = xs.length := by simp [marked_length]
    rw [laws_markCmdS.l0, if_neg (by rw [hl]; omega)]
    simp
  | succ d ih =>
    intro i k h hk
    obtain ⟨k, rfl⟩ := ksucc hk
    have hi : i < xs.length := by omega
    have hl : (marked 0 i ++ xs.drop i).length = xs.length := by simp [marked_length]; omega
    have hml := marked_length i 0
    rw [laws_markCmdS.l0, if_pos (by rw [hl]; omega), if_pos (by omega)]
    simp only [Option.bind_some]
    have e0 : (i : Int).toNat = i := by omega
    rw [e0, w64 (x := 1 + 3 * (i : Int) + 1) (by omega) (by omega), w64 (x := 1 + 3 * (i : Int) + 1 + 1) (by omega) (by omega), w64 (x := 1 + 3 * (i : Int) + 1 + 1 + 1) (by omega) (by omega), wnat (i := i) (by omega)]
    rw [List.drop_eq_getElem_cons hi]
    have put : ∀ (y z : S26) (r : List S26), (marked 0 i ++ y :: r).set i z = marked 0 i ++ z :: r := by
      intro y z r
      rw [List.set_append_right _ _ (by omega), hml, Nat.sub_self, List.set_cons_zero]
    have get : ∀ (y : S26) (r : List S26), rd_T26 (marked 0 i ++ y :: r) (i : Int) = y := by
      intro y r
      simp [rd_T26, List.getD, List.getElem?_append_right, hml]
    simp only [put, get]
    have hs := marked_snoc i 0
    have e1 : marked 0 i ++ (⟨1 + 3 * (i : Int), 1 + 3 * (i : Int) + 1, 1 + 3 * (i : Int) + 1 + 1⟩ : S26) :: xs.drop (i + 1) = marked 0 (i + 1) ++ xs.drop (i + 1) := by
      rw [hs, List.append_assoc]
      simp
      omega
    have e2 : (1 + 3 * (i : Int) + 1 + 1 + 1) = 1 + 3 * ((i + 1 : Nat) : Int) := by omega
    rw [e1, e2]
    exact ih (i + 1) k (by omega) (by omega)
theorem markCmdS_ev (xs : List S26) (hb : xs.length ≤ 1048576) (k : Nat) (hk : xs.length < k) : laws_markCmdS.f k xs 1 = some (1 + 3 * (xs.length : Int), marked 0 xs.length) := by
  have := markCmdS_l xs hb xs.length 0 k (by omega) hk
  simpa [laws_markCmdS.f, marked] using this

/-! demands out of commands: zone by zone (the reference), all at once (the program) -/
def mn2 (c cap : Int) : Int := if c > cap then cap else c
/-- What a zone comes to out of the first n commands, b buckets to go, c orders in this one. -/
def dem (xs : List S26) (cap z : Int) : Nat → Int → Int → Int
  | 0, b, c => if b ≤ 0 then 0 else mn2 c cap
  | n + 1, b, c => if b ≤ 0 then 0 else if (rd_T26 xs (n : Int)).f0 = 2 then mn2 c cap + dem xs cap z n (b - 1) 0
      else if (rd_T26 xs (n : Int)).f0 = 1 ∧ (rd_T26 xs (n : Int)).f1 = z then dem xs cap z n b (c + 1) else dem xs cap z n b c
theorem dem_tick (xs : List S26) (cap z : Int) (n : Nat) (b c : Int) (hb : ¬ b ≤ 0) (h2 : (rd_T26 xs (n : Int)).f0 = 2) : dem xs cap z (n + 1) b c = mn2 c cap + dem xs cap z n (b - 1) 0 := by
  rw [dem, if_neg hb, if_pos h2]
theorem dem_hit (xs : List S26) (cap z : Int) (n : Nat) (b c : Int) (hb : ¬ b ≤ 0) (h2 : ¬ (rd_T26 xs (n : Int)).f0 = 2) (h : (rd_T26 xs (n : Int)).f0 = 1 ∧ (rd_T26 xs (n : Int)).f1 = z) : dem xs cap z (n + 1) b c = dem xs cap z n b (c + 1) := by
  rw [dem, if_neg hb, if_neg h2, if_pos h]
theorem dem_miss (xs : List S26) (cap z : Int) (n : Nat) (b c : Int) (hb : ¬ b ≤ 0) (h2 : ¬ (rd_T26 xs (n : Int)).f0 = 2) (h : ¬ ((rd_T26 xs (n : Int)).f0 = 1 ∧ (rd_T26 xs (n : Int)).f1 = z)) : dem xs cap z (n + 1) b c = dem xs cap z n b c := by
  rw [dem, if_neg hb, if_neg h2, if_neg h]
theorem dem_done (xs : List S26) (cap z : Int) (n : Nat) (b c : Int) (h : b ≤ 0) : dem xs cap z n b c = 0 := by
  cases n <;> rw [dem, if_pos h]
theorem dem_rng (xs : List S26) (cap z : Int) (hc : 1 ≤ cap ∧ cap ≤ 100) : ∀ (n : Nat) (b c : Int), 0 ≤ c → b ≤ 8 → 0 ≤ dem xs cap z n b c ∧ dem xs cap z n b c ≤ (if b ≤ 0 then 0 else b * 100) := by
  intro n
  have hm : ∀ c : Int, 0 ≤ c → 0 ≤ mn2 c cap ∧ mn2 c cap ≤ 100 := fun c h => by unfold mn2; split <;> omega
  induction n with
  | zero =>
    intro b c h1 h2
    have := hm c h1
    rw [dem]
    split <;> omega
  | succ n ih =>
    intro b c h1 h2
    have h0 := hm c h1
    have a1 := ih (b - 1) 0 (by omega) (by omega)
    have a2 := ih b (c + 1) (by omega) h2
    have a3 := ih b c h1 h2
    rw [dem]
    by_cases hb : b ≤ 0
    · rw [if_pos hb, if_pos hb]; omega
    rw [if_neg hb, if_neg hb]
    rw [if_neg hb] at a2 a3
    split
    · split at a1 <;> omega
    · split <;> omega
theorem brought_ev (c cap : Int) (h0 : 0 ≤ c) (h1 : 1 ≤ cap) (k : Nat) (hk : 1 ≤ k) : spec_Brought.f k c 0 cap = some (mn2 c cap) := by
  obtain ⟨k, rfl⟩ := ksucc (show 0 < k by omega)
  unfold spec_Brought.f mn2
  rw [if_neg (by omega), spec_Brought.j0, if_neg (by simp; omega)]
  split <;> rfl
theorem spec_l1 (xs : List S26) (hx : xs.length ≤ 1048576) (b cap : Int) (hb : 1 ≤ b ∧ b ≤ 8) (hc : 1 ≤ cap ∧ cap ≤ 100) (out : List Int) (ho : out.length ≤ 6) (z : Int) (hz : 0 ≤ z ∧ z ≤ 5) (K : Nat) (r : List Int) :
    ∀ (n : Nat) (sum part cnt : Int), n ≤ xs.length → 0 ≤ part ∧ part ≤ b → 0 ≤ sum ∧ sum ≤ part * 100 → 0 ≤ cnt ∧ cnt ≤ 1048576 - n →
      (∀ k, K ≤ k → spec_DemandsIn.l0 k xs b cap (out ++ [sum + dem xs cap z n (b - part) cnt]) (z + 1) = some r) →
      ∀ k, K + 2 * n + 3 ≤ k → spec_DemandsIn.l1 k xs b cap out z sum part cnt ((n : Int) - 1) = some r := by
  intro n
  induction n with
  | zero =>
    intro sum part cnt hn hp hs hcn hK k hk
    obtain ⟨k, rfl⟩ := ksucc (show 0 < k by omega)
    obtain ⟨k, rfl⟩ := ksucc (show 0 < k by omega)
    rw [spec_DemandsIn.l1, if_neg (by omega), spec_DemandsIn.j3, if_neg (by simp)]
    have := hK k (by omega)
    rw [dem] at this
    have hr := dem_rng xs cap z hc 0 (b - part) cnt hcn.1 (by omega)
    rw [dem] at hr
    by_cases hpb : part < b
    · rw [if_neg (by omega)] at this hr
      rw [if_neg (by omega)] at hr
      rw [if_pos hpb, brought_ev cnt cap hcn.1 hc.1 _ (by omega)]
      simp only [Option.bind_some]
      rw [if_pos (by omega), w64 (by omega) (by omega), w64 (by omega) (by omega)]
      exact this
    · rw [if_pos (by omega), Int.add_zero] at this
      rw [if_neg hpb, if_pos (by omega), w64 (by omega) (by omega)]
      exact this
  | succ n ih =>
    intro sum part cnt hn hp hs hcn hK k hk
    obtain ⟨k, rfl⟩ := ksucc (show 0 < k by omega)
    obtain ⟨k, rfl⟩ := ksucc (show 0 < k by omega)
    have e : ((n + 1 : Nat) : Int) - 1 = (n : Int) := by omega
    rw [e, spec_DemandsIn.l1, if_pos (by omega), spec_DemandsIn.j3]
    by_cases hpb : part < b
    · rw [if_pos (by simp [hpb]), if_pos (by omega), if_pos (by omega)]
      have hmn : 0 ≤ mn2 cnt cap ∧ mn2 cnt cap ≤ 100 := by unfold mn2; split <;> omega
      have w1 : wrap64 ((n : Int) - 1) = (n : Int) - 1 := w64 (by omega) (by omega)
      by_cases h2 : (rd_T26 xs (n : Int)).f0 = 2
      · rw [if_pos h2, brought_ev cnt cap hcn.1 hc.1 _ (by omega)]
        simp only [Option.bind_some]
        rw [if_neg (by omega), w64 (x := sum + mn2 cnt cap) (by omega) (by omega), w64 (x := part + 1) (by omega) (by omega), w1]
        refine ih (sum + mn2 cnt cap) (part + 1) 0 (by omega) (by omega) (by omega) (by omega) ?_ k (by omega)
        intro k' hk'
        have := hK k' hk'
        rw [dem, if_neg (by omega), if_pos h2, ← Int.add_assoc] at this
        have e2 : b - (part + 1) = b - part - 1 := by omega
        rw [e2]
        exact this
      · rw [if_neg h2]
        by_cases h1 : (rd_T26 xs (n : Int)).f0 = 1
        · rw [if_pos h1]
          by_cases h3 : (rd_T26 xs (n : Int)).f1 = z
          · rw [if_pos h3, w64 (x := cnt + 1) (by omega) (by omega), w1]
            refine ih sum part (cnt + 1) (by omega) hp hs (by omega) ?_ k (by omega)
            intro k' hk'
            have := hK k' hk'
            rw [dem, if_neg (by omega), if_neg h2, if_pos ⟨h1, h3⟩] at this
            exact this
          · rw [if_neg h3, w1]
            refine ih sum part cnt (by omega) hp hs (by omega) ?_ k (by omega)
            intro k' hk'
            have := hK k' hk'
            rw [dem, if_neg (by omega), if_neg h2, if_neg (fun g => h3 g.2)] at this
            exact this
        · rw [if_neg h1, w1]
          refine ih sum part cnt (by omega) hp hs (by omega) ?_ k (by omega)
          intro k' hk'
          have := hK k' hk'
          rw [dem, if_neg (by omega), if_neg h2, if_neg (fun g => h1 g.1)] at this
          exact this
    · have := hK k (by omega)
      rw [dem_done _ _ _ _ _ _ (by omega), Int.add_zero] at this
      rw [if_neg (by simp [hpb]), if_neg hpb, if_pos (by omega), w64 (by omega) (by omega)]
      exact this
def demAll (xs : List S26) (b cap : Int) : List Int := (List.range 6).map fun z => dem xs cap (z : Nat) xs.length b 0
theorem specDem_l0 (xs : List S26) (hx : xs.length ≤ 1048576) (b cap : Int) (hb : 1 ≤ b ∧ b ≤ 8) (hc : 1 ≤ cap ∧ cap ≤ 100) :
    ∀ (d z k : Nat), z + d = 6 → (2 * xs.length + 4) * d + 1 ≤ k → spec_DemandsIn.l0 k xs b cap ((List.range z).map fun z => dem xs cap (z : Nat) xs.length b 0) (z : Int) = some (demAll xs b cap) := by
  intro d
  induction d with
  | zero =>
    intro z k hz hk
    obtain ⟨k, rfl⟩ := ksucc (show 0 < k by omega)
    have e : z = 6 := by omega
    subst e
    rw [spec_DemandsIn.l0, if_neg (by omega)]
    rfl
  | succ d ih =>
    intro z k hz hk
    have hk' : (2 * xs.length + 4) * d + 1 + 2 * xs.length + 4 ≤ k := by
      rw [Nat.mul_add] at hk
      omega
    obtain ⟨k, rfl⟩ := ksucc (show 0 < k by omega)
    rw [spec_DemandsIn.l0, if_pos (by omega), w64 (by omega) (by omega)]
    refine spec_l1 xs hx b cap hb hc _ (by simp; omega) z (by omega) ((2 * xs.length + 4) * d + 1) _ xs.length 0 0 0 (Nat.le_refl _) (by omega) (by omega) (by omega) ?_ k (by omega)
    intro k' hk'
    have := ih (z + 1) k' (by omega) hk'
    have e1 : (0 : Int) + dem xs cap (z : Nat) xs.length (b - 0) 0 = dem xs cap (z : Nat) xs.length b 0 := by rw [Int.zero_add, Int.sub_zero]
    have e2 : ((z + 1 : Nat) : Int) = (z : Int) + 1 := by omega
    rw [e1, ← e2]
    rw [List.range_succ, List.map_append] at this
    exact this
theorem specDem_ev (xs : List S26) (hx : xs.length ≤ 1048576) (b cap : Int) (k : Nat) (hk : 12 * xs.length + 30 ≤ k) :
    spec_DemandsIn.f k xs b cap = some (if (1 ≤ b ∧ b ≤ 8) ∧ (1 ≤ cap ∧ cap ≤ 100) then demAll xs b cap else []) := by
  obtain ⟨k, rfl⟩ := ksucc (show 0 < k by omega)
  unfold spec_DemandsIn.f
  simp only [Option.bind_some, l01In_eq, decide_eq_true_eq]
  by_cases hb : 1 ≤ b ∧ b ≤ 8
  · rw [if_pos hb, spec_DemandsIn.j0]
    by_cases hc : 1 ≤ cap ∧ cap ≤ 100
    · rw [if_neg (by simp [hc]), if_pos ⟨hb, hc⟩]
      exact specDem_l0 xs hx b cap hb hc 6 0 k (by omega) (by omega)
    · rw [if_pos (by simp; omega), if_neg (fun g => hc g.2)]
  · rw [if_neg hb, spec_DemandsIn.j0, if_pos rfl, if_neg (fun g => hb g.1)]
def six (f : Nat → Int) : List Int := (List.range 6).map f
theorem six_length (f : Nat → Int) : (six f).length = 6 := by simp [six]
theorem six_rd (f : Nat → Int) (i : Nat) (h : i < 6) : rd (six f) (i : Int) = f i := by
  rw [rdN _ i (by rw [six_length]; exact h)]
  simp [six]
theorem six_set (f : Nat → Int) (i : Nat) (v : Int) : (six f).set i v = six fun z => if z = i then v else f z := by
  apply List.ext_getElem
  · simp [six]
  · intro j h1 h2
    simp only [List.getElem_set, six, List.getElem_map, List.getElem_range]
    by_cases h : i = j
    · rw [if_pos h, if_pos h.symm]
    · rw [if_neg h, if_neg (fun g => h g.symm)]
theorem six_rep : List.replicate 6 (0 : Int) = six fun _ => 0 := rfl
theorem six_congr {f g : Nat → Int} (h : ∀ z, f z = g z) : six f = six g := by rw [show f = g from funext h]
theorem implDem_l (xs : List S26) (hx : xs.length ≤ 1048576) (cap : Int) (hc : 1 ≤ cap ∧ cap ≤ 100) :
    ∀ (n : Nat) (b : Int) (o c : Nat → Int) (k : Nat), n ≤ xs.length → 1 ≤ b ∧ b ≤ 8 → (∀ z, 0 ≤ c z ∧ c z ≤ 1048576 - n) → (∀ z, 0 ≤ o z ∧ o z ≤ 1048576 - n) → n < k →
      impl_DemandsIn.l0 k xs b cap (six o) (six fun z => mn2 (c z) cap) ((n : Int) - 1) = some (six fun z => o z + dem xs cap (z : Nat) n b (c z) - mn2 (c z) cap) := by
  intro n
  induction n with
  | zero =>
    intro b o c k hn hb hcz hoz hk
    obtain ⟨k, rfl⟩ := ksucc hk
    rw [impl_DemandsIn.l0, if_neg (by omega)]
    refine congrArg some (six_congr fun z => ?_)
    rw [dem, if_neg (by omega)]
    omega
  | succ n ih =>
    intro b o c k hn hb hcz hoz hk
    obtain ⟨k, rfl⟩ := ksucc hk
    have e : ((n + 1 : Nat) : Int) - 1 = (n : Int) := by omega
    have w1 : wrap64 ((n : Int) - 1) = (n : Int) - 1 := w64 (by omega) (by omega)
    rw [e, impl_DemandsIn.l0, if_pos (by omega), if_pos (by omega), if_pos (by omega), w1]
    by_cases h2 : (rd_T26 xs (n : Int)).f0 = 2
    · rw [if_pos h2, if_pos (by omega), w64 (x := b - 1) (by omega) (by omega)]
      by_cases hb1 : b - 1 = 0
      · rw [if_pos hb1]
        refine congrArg some (six_congr fun z => ?_)
        rw [dem_tick _ _ _ _ _ _ (by omega) h2, dem_done _ _ _ _ _ _ (by omega)]
        omega
      · have := ih (b - 1) o (fun _ => 0) k (by omega) (by omega) (fun z => by omega) (fun z => by have := hoz z; omega) (by omega)
        have e0 : (six fun _ => mn2 0 cap) = List.replicate 6 (0 : Int) := by
          rw [six_rep]
          exact six_congr fun z => by unfold mn2; rw [if_neg (by omega)]
        simp only [e0] at this
        rw [if_neg hb1, this]
        refine congrArg some (six_congr fun z => ?_)
        rw [dem_tick _ _ _ _ _ _ (by omega) h2]
        have : mn2 0 cap = 0 := by unfold mn2; rw [if_neg (by omega)]
        rw [this]
        omega
    · rw [if_neg h2]
      by_cases h1 : (rd_T26 xs (n : Int)).f0 = 1
      · rw [if_pos h1]
        unfold impl_isZone.f
        by_cases h3 : (rd_T26 xs (n : Int)).f1 ≥ 0
        · rw [if_pos h3]
          simp only [Option.bind_some]
          by_cases h4 : (rd_T26 xs (n : Int)).f1 < 6
          · obtain ⟨q, hq⟩ : ∃ q : Nat, (rd_T26 xs (n : Int)).f1 = (q : Int) := ⟨(rd_T26 xs (n : Int)).f1.toNat, by omega⟩
            have hq6 : q < 6 := by omega
            rw [hq] at h4 ⊢
            rw [if_pos (by simp; omega), if_pos (by omega), six_length, if_pos (by omega), six_length, six_rd _ q hq6, six_rd _ q hq6]
            have cq := hcz q
            have oq := hoz q
            by_cases h5 : c q < cap
            · have m1 : mn2 (c q) cap = c q := by unfold mn2; rw [if_neg (by omega)]
              have m2 : mn2 (c q + 1) cap = c q + 1 := by unfold mn2; rw [if_neg (by omega)]
              rw [m1, if_pos h5, if_pos (by omega), w64 (x := o q + 1) (by omega) (by omega), w64 (x := c q + 1) (by omega) (by omega)]
              have eq : (q : Int).toNat = q := by omega
              rw [eq, six_set, six_set]
              have := ih b (fun z => if z = q then o q + 1 else o z) (fun z => if z = q then c q + 1 else c z) k (by omega) hb (fun z => by have := hcz z; split <;> omega) (fun z => by have := hoz z; split <;> omega) (by omega)
              have e1 : (six fun z => mn2 (if z = q then c q + 1 else c z) cap) = six fun z => if z = q then c q + 1 else mn2 (c z) cap := six_congr fun z => by
                by_cases hz : z = q
                · rw [if_pos hz, if_pos hz, m2]
                · rw [if_neg hz, if_neg hz]
              rw [e1] at this
              rw [this]
              refine congrArg some (six_congr fun z => ?_)
              by_cases hz : z = q
              · subst hz
                rw [if_pos rfl, if_pos rfl, dem_hit _ _ _ _ _ _ (by omega) h2 ⟨h1, hq⟩, m1, m2]
                omega
              · rw [if_neg hz, if_neg hz, dem_miss _ _ _ _ _ _ (by omega) h2 (fun g => hz (by have := g.2; omega))]
            · have m1 : mn2 (c q) cap = cap := by
                unfold mn2
                split
                · rfl
                · omega
              have m2 : mn2 (c q + 1) cap = cap := by unfold mn2; rw [if_pos (by omega)]
              rw [m1, if_neg (by omega)]
              have := ih b o (fun z => if z = q then c q + 1 else c z) k (by omega) hb (fun z => by have := hcz z; split <;> omega) (fun z => by have := hoz z; omega) (by omega)
              have e1 : (six fun z => mn2 (if z = q then c q + 1 else c z) cap) = six fun z => mn2 (c z) cap := six_congr fun z => by
                by_cases hz : z = q
                · subst hz
                  rw [if_pos rfl, m1, m2]
                · rw [if_neg hz]
              rw [e1] at this
              rw [this]
              refine congrArg some (six_congr fun z => ?_)
              by_cases hz : z = q
              · subst hz
                rw [if_pos rfl, dem_hit _ _ _ _ _ _ (by omega) h2 ⟨h1, hq⟩, m1, m2]
              · rw [if_neg hz, dem_miss _ _ _ _ _ _ (by omega) h2 (fun g => hz (by have := g.2; omega))]
          · rw [if_neg (by simp; omega), ih b o c k (by omega) hb (fun z => by have := hcz z; omega) (fun z => by have := hoz z; omega) (by omega)]
            refine congrArg some ?_
            apply List.ext_getElem
            · simp [six]
            · intro j g1 g2
              rw [six_length] at g1
              simp only [six, List.getElem_map, List.getElem_range]
              rw [dem_miss _ _ _ _ _ _ (by omega) h2 (fun g => by have := g.2; omega)]
        · rw [if_neg h3]
          simp only [Option.bind_some]
          rw [if_neg (by simp), ih b o c k (by omega) hb (fun z => by have := hcz z; omega) (fun z => by have := hoz z; omega) (by omega)]
          refine congrArg some (six_congr fun z => ?_)
          rw [dem_miss _ _ _ _ _ _ (by omega) h2 (fun g => by have := g.2; omega)]
      · rw [if_neg h1, ih b o c k (by omega) hb (fun z => by have := hcz z; omega) (fun z => by have := hoz z; omega) (by omega)]
        refine congrArg some (six_congr fun z => ?_)
        rw [dem_miss _ _ _ _ _ _ (by omega) h2 (fun g => h1 g.1)]
theorem implDem_ev (xs : List S26) (hx : xs.length ≤ 1048576) (b cap : Int) (k : Nat) (hk : xs.length + 2 ≤ k) :
    impl_DemandsIn.f k xs b cap = some (if (1 ≤ b ∧ b ≤ 8) ∧ (1 ≤ cap ∧ cap ≤ 100) then demAll xs b cap else []) := by
  obtain ⟨k, rfl⟩ := ksucc (show 0 < k by omega)
  unfold impl_DemandsIn.f
  by_cases h1 : b < 1
  · rw [if_pos h1, impl_DemandsIn.j0, if_pos rfl, if_neg (by omega)]
  rw [if_neg h1]
  by_cases h2 : b > 8
  · rw [if_pos h2, impl_DemandsIn.j0, if_pos rfl, if_neg (by omega)]
  rw [if_neg h2]
  by_cases h3 : cap < 1
  · rw [if_pos h3, impl_DemandsIn.j0, if_pos rfl, if_neg (by omega)]
  rw [if_neg h3, impl_DemandsIn.j0]
  by_cases h4 : cap > 100
  · rw [if_pos (by simp; omega), if_neg (by omega)]
  · rw [if_neg (by simp; omega), if_pos (by omega), if_pos (by omega), w64 (by omega) (by omega)]
    have m0 : mn2 0 cap = 0 := by unfold mn2; rw [if_neg (by omega)]
    have := implDem_l xs hx cap (by omega) xs.length b (fun _ => 0) (fun _ => 0) k (Nat.le_refl _) (by omega) (fun z => by omega) (fun z => by omega) (by omega)
    simp only [m0] at this
    rw [six_rep, this]
    refine congrArg some (six_congr fun z => ?_)
    omega
theorem demAll_length (xs : List S26) (b cap : Int) : (demAll xs b cap).length = 6 := by simp [demAll]

theorem FnExactDemandsIn : OpFnExactDemandsIn.Pure := by
  intro xs b cap ⟨hw, _⟩ _ _
  refine ⟨12 * xs.length + 40, ?_⟩
  unfold laws_FnExactDemandsIn.f
  rw [szCmdS_eq xs hw]
  simp only [Option.bind_some]
  by_cases h1 : xs.length ≤ 1048576
  · rw [if_pos h1, if_neg (by omega)]
    rw [toCmdS_ev xs h1 _ (by omega)]
    simp only [Option.bind_some]
    rw [specDem_ev _ (by simpa using h1) b cap _ (by simp), implDem_ev _ (by simpa using h1) b cap _ (by simp; omega)]
    simp only [Option.bind_some]
    obtain ⟨r, hr⟩ : ∃ r, r = (if (1 ≤ b ∧ b ≤ 8) ∧ (1 ≤ cap ∧ cap ≤ 100) then demAll (xs.map cv) b cap else []) := ⟨_, rfl⟩
    have hl : r.length ≤ 6 := by
      rw [hr]
      split
      · rw [demAll_length]; omega
      · simp
    rw [← hr]
    have hm := markCmdS_ev (xs.map cv) (by simpa using h1) (12 * xs.length + 40) (by simp; omega)
    rw [eqIntS_ev r (by omega) _ (by omega)]
    simp only [Option.bind_some]
    rw [if_pos trivial, eqCmdS_ev _ (by simpa using h1) _ (by simp; omega)]
    simp only [Option.bind_some]
    rw [if_pos trivial, hm]
    simp only [Option.bind_some]
    rw [if_neg (by omega), show 12 * xs.length + 40 = 12 * xs.length + 39 + 1 from rfl, laws_FnExactDemandsIn.j0, if_neg (by simp)]
    have g1 := markIntS_ev r 1 (by omega) (by omega) (12 * xs.length + 39) (by omega)
    have g2 := heldIntS_ev 1 r.length (by omega) (by omega) (12 * xs.length + 39) (by omega)
    have c1 : ((1 : Nat) : Int) = 1 := rfl
    rw [c1] at g1 g2
    rw [g1]
    simp only [Option.bind_some]
    rw [g2]
    simp only [Option.bind_some]
    rw [if_neg (by omega), if_pos trivial, toCmdS_ev xs h1 _ (by omega)]
    simp only [Option.bind_some]
    rw [implDem_ev _ (by simpa using h1) b cap _ (by simp; omega), ← hr]
    simp only [Option.bind_some]
    rw [eqIntS_ev r (by omega) _ (by omega)]
    simp only [Option.bind_some]
    rw [if_pos trivial, if_neg (by omega), if_pos trivial]
  · rw [if_neg h1]; rfl

end Go.Proofs.Ytpkffapjplebgaa.Pure
