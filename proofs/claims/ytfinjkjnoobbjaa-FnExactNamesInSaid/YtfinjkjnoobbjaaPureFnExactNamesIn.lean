/- The law FnExactNamesIn over numbers and lists alone: it answers true for every input; no condition beside the bounds of the kinds. -/
import Derived.Test.YtfinjkjnoobbjaaMFnExactNamesInx
import Derived.Test.YtfinjkjnoobbjaaOpFnExactNamesIn
namespace Go.Proofs.Ytfinjkjnoobbjaa.Pure
open Go.RowKit Go.Proofs.Ytfinjkjnoobbjaa.MFnExactNamesIn Go.Proofs.YtfinjkjnoobbjaaW.PrintWords Go.Proofs.YtfinjkjnoobbjaaW.PrintLast Go.Proofs.Ytfinjkjnoobbjaa
set_option linter.unusedVariables false
set_option linter.unusedSimpArgs false

theorem w64 {x : Int} (h1 : -9223372036854775808 ≤ x) (h2 : x ≤ 9223372036854775807) : wrap64 x = x := by unfold wrap64; omega
theorem wnat {i : Nat} (h : i < 4611686018427387904) : wrap64 ((i : Int) + 1) = ((i + 1 : Nat) : Int) := by unfold wrap64; omega
theorem ksucc {k d : Nat} (h : d < k) : ∃ m, k = m + 1 := ⟨k - 1, by omega⟩

/-! commands: made of what came in, compared, marked -/
def cv (y : S125) : S120 := ⟨y.f0, y.f1, y.f2⟩
theorem rdL (xs : List S125) (i : Nat) (h : i < xs.length) : rd_T125 xs (i : Int) = xs[i] := by simp [rd_T125, List.getD, h]
theorem rdI (xs : List S120) (i : Nat) (h : i < xs.length) : rd_T120 xs (i : Int) = xs[i] := by simp [rd_T120, List.getD, h]
theorem fill_step {α β : Type} (f : α → β) (z : β) (xs : List α) (i d : Nat) (h : i + (d + 1) = xs.length) (hi : i < xs.length) :
    ((xs.take i).map f ++ List.replicate (d + 1) z).set i (f xs[i]) = (xs.take (i + 1)).map f ++ List.replicate d z := by
  have hl : ((xs.take i).map f).length = i := by simp; omega
  rw [List.replicate_succ, List.set_append_right _ _ (by omega), hl, Nat.sub_self, List.set_cons_zero, List.take_succ_eq_append_getElem hi, List.map_append]
  simp
theorem toCmdS_l (xs : List S125) (hb : xs.length ≤ 1048576) : ∀ (d i k : Nat), i + d = xs.length → d < k →
    laws_toCmdS.l0 k xs ((xs.take i).map cv ++ List.replicate d z120) (i : Int) = some (xs.map cv) := by
  intro d
  induction d with
  | zero =>
    intro i k h hk
    obtain ⟨k, rfl⟩ := ksucc hk
    simp only [laws_toCmdS.l0]
    rw [if_neg (by omega), List.take_of_length_le (by omega)]
    simp
  | succ d ih =>
    intro i k h hk
    obtain ⟨k, rfl⟩ := ksucc hk
    have hi : i < xs.length := by omega
    simp only [laws_toCmdS.l0, laws_toCmd.f, Option.bind_some]
    rw [if_pos (by omega), if_pos (by omega), if_pos (by simp; omega), rdL xs i hi, wnat (by omega)]
    have e : (i : Int).toNat = i := by simp
    rw [e]
    exact (congrArg (fun z => laws_toCmdS.l0 k xs z ((i + 1 : Nat) : Int)) (fill_step cv z120 xs i d h hi)).trans (ih (i + 1) k (by omega) (by omega))
theorem toCmdS_ev (xs : List S125) (hb : xs.length ≤ 1048576) (k : Nat) (hk : xs.length < k) : laws_toCmdS.f k xs = some (xs.map cv) := by
  unfold laws_toCmdS.f
  rw [if_pos (by omega), if_pos (by omega)]
  have := toCmdS_l xs hb xs.length 0 k (by omega) hk
  simpa using this
theorem eqCmd_refl (a b c : Int) : laws_eqCmd.f a b c a b c = some true := by simp [laws_eqCmd.f]
theorem eqCmdS_l (xs : List S120) (hb : xs.length ≤ 1048576) : ∀ (d i k : Nat), i + d = xs.length → d < k → laws_eqCmdS.l0 k xs xs (i : Int) = some true := by
  intro d
  induction d with
  | zero =>
    intro i k h hk
    obtain ⟨k, rfl⟩ := ksucc hk
    simp only [laws_eqCmdS.l0]
    rw [if_neg (by omega)]
  | succ d ih =>
    intro i k h hk
    obtain ⟨k, rfl⟩ := ksucc hk
    simp only [laws_eqCmdS.l0, eqCmd_refl, Option.bind_some]
    rw [if_pos (by omega), if_pos (by omega), if_pos (by omega), if_pos trivial, wnat (by omega)]
    exact ih (i + 1) k (by omega) (by omega)
theorem eqCmdS_ev (xs : List S120) (hb : xs.length ≤ 1048576) (k : Nat) (hk : xs.length < k) : laws_eqCmdS.f k xs xs = some true := by
  unfold laws_eqCmdS.f
  rw [if_pos rfl]
  exact eqCmdS_l xs hb xs.length 0 k (by omega) hk

theorem szCmdS_eq (xs : List S125) (h : xs.length * 24 ≤ 140737488351232) : laws_szCmdS.f xs 1048576 = some (if xs.length ≤ 1048576 then 1048576 - (xs.length : Int) else -1) := by
  unfold laws_szCmdS.f
  rw [w64 (by omega) (by omega)]
  by_cases h1 : xs.length ≤ 1048576
  · rw [if_pos h1, if_neg (by omega)]
  · rw [if_neg h1, if_pos (by omega)]

/-! lists of numbers, compared -/
theorem rdN (xs : List Int) (i : Nat) (h : i < xs.length) : rd xs (i : Int) = xs[i] := by simp [rd, List.getD, h]
theorem eqIntS_l (xs : List Int) (hb : xs.length ≤ 16777216) : ∀ (d i k : Nat), i + d = xs.length → d < k → laws_eqIntS.l0 k xs xs (i : Int) = some true := by
  intro d
  induction d with
  | zero =>
    intro i k h hk
    obtain ⟨k, rfl⟩ := ksucc hk
    rw [laws_eqIntS.l0, if_neg (by omega)]
  | succ d ih =>
    intro i k h hk
    obtain ⟨k, rfl⟩ := ksucc hk
    rw [laws_eqIntS.l0, if_pos (by omega), if_pos (by omega), if_pos (by omega), if_pos rfl, wnat (by omega)]
    exact ih (i + 1) k (by omega) (by omega)
theorem eqIntS_ev (xs : List Int) (hb : xs.length ≤ 16777216) (k : Nat) (hk : xs.length < k) : laws_eqIntS.f k xs xs = some true := by
  unfold laws_eqIntS.f
  rw [if_pos rfl]
  exact eqIntS_l xs hb xs.length 0 k (by omega) hk

/-! lists of numbers, marked -/
def nums1 (n m : Nat) : List Int := (List.range' n m).map fun (i : Nat) => (i : Int)
theorem nums1_length (n m : Nat) : (nums1 n m).length = m := by simp [nums1]
theorem nums1_get (n m i : Nat) (h : i < (nums1 n m).length) : (nums1 n m)[i] = ((n + i : Nat) : Int) := by simp [nums1]
theorem nums1_snoc (n m : Nat) : nums1 n (m + 1) = nums1 n m ++ [((n + m : Nat) : Int)] := by simp [nums1, List.range'_concat]
theorem markIntS_l (xs : List Int) (n : Nat) (hn : n ≤ 1125899906842624) (hb : xs.length ≤ 16777216) : ∀ (d i k : Nat), i + d = xs.length → d < k →
    laws_markIntS.l0 k (nums1 n i ++ xs.drop i) ((n + i : Nat) : Int) (i : Int) = some (((n + xs.length : Nat) : Int), nums1 n xs.length) := by
  intro d
  induction d with
  | zero =>
    intro i k h hk
    obtain ⟨k, rfl⟩ := ksucc hk
    have e : i = xs.length := by omega
    subst e
    have hl : (nums1 n xs.length ++ xs.drop xs.length).length = xs.length := by simp [nums1_length]
    rw [laws_markIntS.l0, if_neg (by rw [hl]; omega)]
    simp
  | succ d ih =>
    intro i k h hk
    obtain ⟨k, rfl⟩ := ksucc hk
    have hi : i < xs.length := by omega
    have hml := nums1_length n i
    have hl : (nums1 n i ++ xs.drop i).length = xs.length := by simp [hml]; omega
    rw [laws_markIntS.l0, if_pos (by rw [hl]; omega), if_pos (by omega)]
    have e0 : (i : Int).toNat = i := by omega
    rw [e0, wnat (i := n + i) (by omega), wnat (i := i) (by omega), List.drop_eq_getElem_cons hi, List.set_append_right _ _ (by omega), hml, Nat.sub_self, List.set_cons_zero]
    have e1 : nums1 n i ++ ((n + i : Nat) : Int) :: xs.drop (i + 1) = nums1 n (i + 1) ++ xs.drop (i + 1) := by rw [nums1_snoc, List.append_assoc]; rfl
    rw [e1]
    exact ih (i + 1) k (by omega) (by omega)
theorem markIntS_ev (xs : List Int) (n : Nat) (hn : n ≤ 1125899906842624) (hb : xs.length ≤ 16777216) (k : Nat) (hk : xs.length < k) : laws_markIntS.f k xs (n : Int) = some (((n + xs.length : Nat) : Int), nums1 n xs.length) := by
  have := markIntS_l xs n hn hb xs.length 0 k (by omega) hk
  simpa [laws_markIntS.f, nums1] using this

/-! ints, held -/
theorem heldIntS_l (n m : Nat) (hn : n ≤ 1125899906842624) (hb : m ≤ 16777216) : ∀ (d i k : Nat), i + d = m → d < k →
    laws_heldIntS.l0 k (nums1 n m) ((n + i : Nat) : Int) (i : Int) = some ((n + m : Nat) : Int) := by
  intro d
  have hml := nums1_length n m
  induction d with
  | zero =>
    intro i k h hk
    obtain ⟨k, rfl⟩ := ksucc hk
    have e : i = m := by omega
    subst e
    rw [laws_heldIntS.l0, if_neg (by omega)]
  | succ d ih =>
    intro i k h hk
    obtain ⟨k, rfl⟩ := ksucc hk
    rw [laws_heldIntS.l0, if_pos (by omega), if_pos (by omega), rdN _ i (by omega), nums1_get, if_pos rfl, wnat (i := n + i) (by omega), wnat (i := i) (by omega)]
    exact ih (i + 1) k (by omega) (by omega)
theorem heldIntS_ev (n m : Nat) (hn : n ≤ 1125899906842624) (hb : m ≤ 16777216) (k : Nat) (hk : m < k) : laws_heldIntS.f k (nums1 n m) (n : Int) = some ((n + m : Nat) : Int) := by
  have := heldIntS_l n m hn hb m 0 k (by omega) hk
  simpa [laws_heldIntS.f] using this

/-! marks -/
def marked (n : Nat) : Nat → List S120
  | 0 => []
  | m + 1 => ⟨1 + 3 * n, 2 + 3 * n, 3 + 3 * n⟩ :: marked (n + 1) m
theorem marked_length : ∀ (m n : Nat), (marked n m).length = m
  | 0, _ => rfl
  | m + 1, n => by simp [marked, marked_length m (n + 1)]
theorem marked_get : ∀ (m n i : Nat) (h : i < (marked n m).length), (marked n m)[i] = ⟨1 + 3 * (n + i : Nat), 2 + 3 * (n + i : Nat), 3 + 3 * (n + i : Nat)⟩
  | 0, _, _, h => by simp [marked] at h
  | m + 1, n, 0, _ => by simp [marked]
  | m + 1, n, i + 1, h => by
    have := marked_get m (n + 1) i (by simpa [marked] using h)
    simp only [marked, List.getElem_cons_succ, this]
    have e : n + 1 + i = n + (i + 1) := by omega
    rw [e]
theorem marked_snoc (m n : Nat) : marked n (m + 1) = marked n m ++ [⟨1 + 3 * (n + m : Nat), 2 + 3 * (n + m : Nat), 3 + 3 * (n + m : Nat)⟩] := by
  induction m generalizing n with
  | zero => simp [marked]
  | succ m ih =>
    have e : n + 1 + m = n + (m + 1) := by omega
    rw [marked, ih (n + 1), e]
    rfl
theorem markCmdS_l (xs : List S120) (hb : xs.length ≤ 1048576) : ∀ (d i k : Nat), i + d = xs.length → d < k →
    laws_markCmdS.l0 k (marked 0 i ++ xs.drop i) (1 + 3 * (i : Int)) (i : Int) = some (1 + 3 * (xs.length : Int), marked 0 xs.length) := by
  intro d
  induction d with
  | zero =>
    intro i k h hk
    obtain ⟨k, rfl⟩ := ksucc hk
    have e : i = xs.length := by omega
    subst e
    have hl : (marked 0 xs.length ++ xs.drop xs.length).length = xs.length := by simp [marked_length]
    rw [laws_markCmdS.l0, if_neg (by rw [hl]; omega)]
    simp
  | succ d ih =>
    intro i k h hk
    obtain ⟨k, rfl⟩ := ksucc hk
    have hi : i < xs.length := by omega
    have hl : (marked 0 i ++ xs.drop i).length = xs.length := by simp [marked_length]; omega
    have hml := marked_length i 0
    rw [laws_markCmdS.l0, if_pos (by rw [hl]; omega), if_pos (by omega)]
    simp only [Option.bind_some]
    have e0 : (i : Int).toNat = i := by omega
    rw [e0, w64 (x := 1 + 3 * (i : Int) + 1) (by omega) (by omega), w64 (x := 1 + 3 * (i : Int) + 1 + 1) (by omega) (by omega), w64 (x := 1 + 3 * (i : Int) + 1 + 1 + 1) (by omega) (by omega), wnat (i := i) (by omega)]
    rw [List.drop_eq_getElem_cons hi]
    have put : ∀ (y z : S120) (r : List S120), (marked 0 i ++ y :: r).set i z = marked 0 i ++ z :: r := by
      intro y z r
      rw [List.set_append_right _ _ (by omega), hml, Nat.sub_self, List.set_cons_zero]
    have get : ∀ (y : S120) (r : List S120), rd_T120 (marked 0 i ++ y :: r) (i : Int) = y := by
      intro y r
      simp [rd_T120, List.getD, List.getElem?_append_right, hml]
    simp only [put, get]
    have hs := marked_snoc i 0
    have e1 : marked 0 i ++ (⟨1 + 3 * (i : Int), 1 + 3 * (i : Int) + 1, 1 + 3 * (i : Int) + 1 + 1⟩ : S120) :: xs.drop (i + 1) = marked 0 (i + 1) ++ xs.drop (i + 1) := by
      rw [hs, List.append_assoc]
      simp
      omega
    have e2 : (1 + 3 * (i : Int) + 1 + 1 + 1) = 1 + 3 * ((i + 1 : Nat) : Int) := by omega
    rw [e1, e2]
    exact ih (i + 1) k (by omega) (by omega)
theorem markCmdS_ev (xs : List S120) (hb : xs.length ≤ 1048576) (k : Nat) (hk : xs.length < k) : laws_markCmdS.f k xs 1 = some (1 + 3 * (xs.length : Int), marked 0 xs.length) := by
  have := markCmdS_l xs hb xs.length 0 k (by omega) hk
  simpa [laws_markCmdS.f, marked] using this

/-! Orders, made of what came in -/
def cvOrder (y : S191) : S167 := ⟨y.f0, y.f1, y.f2⟩
theorem rdLOrder (xs : List S191) (i : Nat) (h : i < xs.length) : rd_T191 xs (i : Int) = xs[i] := by simp [rd_T191, List.getD, h]
theorem toOrderS_l (xs : List S191) (hb : xs.length ≤ 1048576) : ∀ (d i k : Nat), i + d = xs.length → d < k →
    laws_toOrderS.l0 k xs ((xs.take i).map cvOrder ++ List.replicate d z167) (i : Int) = some (xs.map cvOrder) := by
  intro d
  induction d with
  | zero =>
    intro i k h hk
    obtain ⟨k, rfl⟩ := ksucc hk
    simp only [laws_toOrderS.l0]
    rw [if_neg (by omega), List.take_of_length_le (by omega)]
    simp
  | succ d ih =>
    intro i k h hk
    obtain ⟨k, rfl⟩ := ksucc hk
    have hi : i < xs.length := by omega
    simp only [laws_toOrderS.l0, laws_toOrder.f, Option.bind_some]
    rw [if_pos (by omega), if_pos (by omega), if_pos (by simp; omega), rdLOrder xs i hi, wnat (by omega)]
    have e : (i : Int).toNat = i := by simp
    rw [e]
    exact (congrArg (fun z => laws_toOrderS.l0 k xs z ((i + 1 : Nat) : Int)) (fill_step cvOrder z167 xs i d h hi)).trans (ih (i + 1) k (by omega) (by omega))
theorem toOrderS_ev (xs : List S191) (hb : xs.length ≤ 1048576) (k : Nat) (hk : xs.length < k) : laws_toOrderS.f k xs = some (xs.map cvOrder) := by
  unfold laws_toOrderS.f
  rw [if_pos (by omega), if_pos (by omega)]
  have := toOrderS_l xs hb xs.length 0 k (by omega) hk
  simpa using this

/-! Orders, compared -/
theorem rdIOrder (xs : List S167) (i : Nat) (h : i < xs.length) : rd_T167 xs (i : Int) = xs[i] := by simp [rd_T167, List.getD, h]
theorem eqOrder_refl (x0 : Int) (x1 : Int) (x2 : Int) : laws_eqOrder.f x0 x1 x2 x0 x1 x2 = some true := by simp [laws_eqOrder.f]
theorem eqOrderS_l (xs : List S167) (hb : xs.length ≤ 1048576) : ∀ (d i k : Nat), i + d = xs.length → d < k → laws_eqOrderS.l0 k xs xs (i : Int) = some true := by
  intro d
  induction d with
  | zero =>
    intro i k h hk
    obtain ⟨k, rfl⟩ := ksucc hk
    simp only [laws_eqOrderS.l0]
    rw [if_neg (by omega)]
  | succ d ih =>
    intro i k h hk
    obtain ⟨k, rfl⟩ := ksucc hk
    simp only [laws_eqOrderS.l0, eqOrder_refl, Option.bind_some]
    rw [if_pos (by omega), if_pos (by omega), if_pos (by omega), if_pos trivial, wnat (by omega)]
    exact ih (i + 1) k (by omega) (by omega)
theorem eqOrderS_ev (xs : List S167) (hb : xs.length ≤ 1048576) (k : Nat) (hk : xs.length < k) : laws_eqOrderS.f k xs xs = some true := by
  unfold laws_eqOrderS.f
  rw [if_pos rfl]
  exact eqOrderS_l xs hb xs.length 0 k (by omega) hk

/-! replies: made of what came in, compared, marked, sized -/
def cvReply (y : S118) : S123 := ⟨y.f0, y.f1, y.f2.map cvOrder⟩
theorem rdLReply (xs : List S118) (i : Nat) (h : i < xs.length) : rd_T118 xs (i : Int) = xs[i] := by simp [rd_T118, List.getD, h]
theorem rdIReply (xs : List S123) (i : Nat) (h : i < xs.length) : rd_T123 xs (i : Int) = xs[i] := by simp [rd_T123, List.getD, h]
theorem szReplyS_l (xs : List S118) (hb : xs.length ≤ 1048576) (hw : ∀ x ∈ xs, x.f2.length * 24 ≤ 140737488351232) : ∀ (d i k : Nat) (b : Int), i + d = xs.length → d < k → 0 ≤ b → b ≤ 1048576 →
    ∃ t, laws_szReplyS.l0 k xs b (i : Int) = some t ∧ t ≤ b ∧ (0 ≤ t → ∀ j (hj : j < xs.length), i ≤ j → xs[j].f2.length ≤ 1048576) := by
  intro d
  induction d with
  | zero =>
    intro i k b h hk h0 h1
    obtain ⟨k, rfl⟩ := ksucc hk
    rw [laws_szReplyS.l0, if_neg (by omega)]
    exact ⟨b, rfl, by omega, fun _ j hj hij => by omega⟩
  | succ d ih =>
    intro i k b h hk h0 h1
    obtain ⟨k, rfl⟩ := ksucc hk
    have hi : i < xs.length := by omega
    have hwi := hw _ (List.getElem_mem hi)
    rw [laws_szReplyS.l0, if_pos (by omega), if_pos (by omega), rdLReply xs i hi]
    unfold laws_szReply.f laws_szOrderS.f
    rw [w64 (x := b - _) (by omega) (by omega), wnat (i := i) (by omega)]
    by_cases h2 : b - (xs[i].f2.length : Int) < 0
    · rw [if_pos h2]
      exact ⟨-1, rfl, by omega, fun h => by omega⟩
    · rw [if_neg h2]
      simp only [Option.bind_some]
      rw [if_neg h2]
      simp only [Option.bind_some]
      rw [if_neg h2]
      obtain ⟨t, e, h3, h4⟩ := ih (i + 1) k (b - (xs[i].f2.length : Int)) (by omega) (by omega) (by omega) (by omega)
      refine ⟨t, e, by omega, fun ht j hj hij => ?_⟩
      by_cases hij' : i = j
      · subst hij'; omega
      · exact h4 ht j hj (by omega)
theorem szReplyS_ev (xs : List S118) (hz : xs.length * 40 ≤ 140737488351232) (hw : ∀ x ∈ xs, x.f2.length * 24 ≤ 140737488351232) (k : Nat) (hk : xs.length < k) (b : Int) (h0 : 0 ≤ b) (h1 : b ≤ 1048576) :
    ∃ t, laws_szReplyS.f k xs b = some t ∧ t ≤ b ∧ (0 ≤ t → xs.length ≤ 1048576 ∧ ∀ x ∈ xs, x.f2.length ≤ 1048576) := by
  unfold laws_szReplyS.f
  rw [w64 (by omega) (by omega)]
  by_cases h2 : b - (xs.length : Int) < 0
  · rw [if_pos h2]
    exact ⟨-1, rfl, by omega, fun h => by omega⟩
  · rw [if_neg h2]
    obtain ⟨t, e, h3, h4⟩ := szReplyS_l xs (by omega) hw xs.length 0 k (b - xs.length) (by omega) hk (by omega) (by omega)
    refine ⟨t, e, by omega, fun ht => ⟨by omega, fun x hx => ?_⟩⟩
    obtain ⟨j, hj, rfl⟩ := List.mem_iff_getElem.1 hx
    exact h4 ht j hj (by omega)
theorem toReplyS_l (xs : List S118) (hb : xs.length ≤ 1048576) (hw : ∀ x ∈ xs, x.f2.length ≤ 1048576) : ∀ (d i k : Nat), i + d = xs.length → d + 1048577 < k →
    laws_toReplyS.l0 k xs ((xs.take i).map cvReply ++ List.replicate d z123) (i : Int) = some (xs.map cvReply) := by
  intro d
  induction d with
  | zero =>
    intro i k h hk
    obtain ⟨k, rfl⟩ := ksucc (show 0 < k by omega)
    simp only [laws_toReplyS.l0]
    rw [if_neg (by omega), List.take_of_length_le (by omega)]
    simp
  | succ d ih =>
    intro i k h hk
    obtain ⟨k, rfl⟩ := ksucc (show 0 < k by omega)
    have hi : i < xs.length := by omega
    have hwi := hw _ (List.getElem_mem hi)
    simp only [laws_toReplyS.l0, laws_toReply.f]
    rw [if_pos (by omega), if_pos (by omega), rdLReply xs i hi, toOrderS_ev _ hwi k (by omega)]
    simp only [Option.bind_some]
    rw [if_pos (by simp; omega), wnat (by omega)]
    have e : (i : Int).toNat = i := by simp
    rw [e]
    exact (congrArg (fun z => laws_toReplyS.l0 k xs z ((i + 1 : Nat) : Int)) (fill_step cvReply z123 xs i d h hi)).trans (ih (i + 1) k (by omega) (by omega))
theorem toReplyS_ev (xs : List S118) (hb : xs.length ≤ 1048576) (hw : ∀ x ∈ xs, x.f2.length ≤ 1048576) (k : Nat) (hk : xs.length + 1048577 < k) : laws_toReplyS.f k xs = some (xs.map cvReply) := by
  unfold laws_toReplyS.f
  rw [if_pos (by omega), if_pos (by omega)]
  have := toReplyS_l xs hb hw xs.length 0 k (by omega) hk
  simpa using this
theorem eqReplyS_l (xs : List S123) (hb : xs.length ≤ 1048576) (hw : ∀ x ∈ xs, x.f2.length ≤ 1048576) : ∀ (d i k : Nat), i + d = xs.length → d + 1048577 < k → laws_eqReplyS.l0 k xs xs (i : Int) = some true := by
  intro d
  induction d with
  | zero =>
    intro i k h hk
    obtain ⟨k, rfl⟩ := ksucc (show 0 < k by omega)
    simp only [laws_eqReplyS.l0]
    rw [if_neg (by omega)]
  | succ d ih =>
    intro i k h hk
    obtain ⟨k, rfl⟩ := ksucc (show 0 < k by omega)
    have hi : i < xs.length := by omega
    have hwi := hw _ (List.getElem_mem hi)
    simp only [laws_eqReplyS.l0, laws_eqReply.f]
    rw [if_pos (by omega), if_pos (by omega), if_pos (by omega), if_pos trivial, if_pos trivial, rdIReply xs i hi, eqOrderS_ev _ hwi k (by omega)]
    simp only [Option.bind_some, if_true]
    rw [wnat (by omega)]
    exact ih (i + 1) k (by omega) (by omega)
theorem eqReplyS_ev (xs : List S123) (hb : xs.length ≤ 1048576) (hw : ∀ x ∈ xs, x.f2.length ≤ 1048576) (k : Nat) (hk : xs.length + 1048577 < k) : laws_eqReplyS.f k xs xs = some true := by
  unfold laws_eqReplyS.f
  rw [if_pos rfl]
  exact eqReplyS_l xs hb hw xs.length 0 k (by omega) hk
theorem markOrderA : ∀ (d i k : Nat) (xs : List S167) (v : Int), i + d = xs.length → d < k → xs.length ≤ 16777216 → 0 ≤ v → v + 3 * d ≤ 1125899906842624 → ∃ ys, laws_markOrderS.l0 k xs v (i : Int) = some (v + 3 * d, ys) := by
  intro d
  induction d with
  | zero =>
    intro i k xs v h hk _ hv _
    obtain ⟨k, rfl⟩ := ksucc hk
    exact ⟨xs, by rw [laws_markOrderS.l0, if_neg (by omega)]; simp⟩
  | succ d ih =>
    intro i k xs v h hk hl hv hv2
    obtain ⟨k, rfl⟩ := ksucc hk
    rw [laws_markOrderS.l0, if_pos (by omega), if_pos (by omega), wnat (i := i) (by omega), w64 (x := v + 1) (by omega) (by omega), w64 (x := v + 1 + 1) (by omega) (by omega), w64 (x := v + 1 + 1 + 1) (by omega) (by omega)]
    simp only [Option.bind_some]
    suffices H : ∀ zs : List S167, zs.length = xs.length → ∃ ys, laws_markOrderS.l0 k zs (v + 1 + 1 + 1) ((i + 1 : Nat) : Int) = some (v + 3 * ((d + 1 : Nat) : Int), ys) from H _ (by simp)
    intro zs hz
    obtain ⟨ys, e⟩ := ih (i + 1) k zs (v + 1 + 1 + 1) (by omega) (by omega) (by omega) (by omega) (by omega)
    exact ⟨ys, e.trans (by congr 2; omega)⟩
theorem markReplyA (k : Nat) (hk : 1048576 < k) : ∀ (xs : List S123) (v : Int), 0 ≤ v → v + xs.length * 3145730 ≤ 562949953421312 → (∀ x ∈ xs, x.f2.length ≤ 1048576) → ∃ r, laws_markReplyS.l k xs v = some r ∧ v ≤ r ∧ r ≤ v + xs.length * 3145730 := by
  intro xs
  induction xs with
  | nil => exact fun v hv _ _ => ⟨v, rfl, by omega, by simp⟩
  | cons x t ih =>
    intro v hv hv2 hx
    rw [List.length_cons] at hv2 ⊢
    have hx1 := hx x (by simp)
    obtain ⟨ys, e⟩ := markOrderA x.f2.length 0 k x.f2 (v + 1 + 1) (by omega) (by omega) (by omega) (by omega) (by omega)
    obtain ⟨r, e2, h1, h2⟩ := ih (v + 1 + 1 + 3 * (x.f2.length : Int)) (by omega) (by omega) (fun y hy => hx y (by simp [hy]))
    refine ⟨r, ?_, by omega, by omega⟩
    rw [show ((0 : Nat) : Int) = 0 from rfl] at e
    rw [laws_markReplyS.l]
    unfold laws_markOrderS.f
    rw [w64 (x := v + 1) (by omega) (by omega), w64 (x := v + 1 + 1) (by omega) (by omega), e, Option.bind_some]
    exact e2

/-! sorted lists, compacted -/
theorem asc_ext : ∀ {a b : List Int}, a.Pairwise (· < ·) → b.Pairwise (· < ·) → (∀ x, x ∈ a ↔ x ∈ b) → a = b
  | [], [], _, _, _ => rfl
  | [], y :: b, _, _, h => absurd ((h y).2 (by simp)) (by simp)
  | x :: a, [], _, _, h => absurd ((h x).1 (by simp)) (by simp)
  | x :: a, y :: b, ha, hb, h => by
    rw [List.pairwise_cons] at ha hb
    have hxy : x = y := by
      rcases List.mem_cons.1 ((h x).1 (by simp)) with e | h1
      · exact e
      · rcases List.mem_cons.1 ((h y).2 (by simp)) with e | h2
        · exact e.symm
        · have := hb.1 x h1; have := ha.1 y h2; omega
    subst hxy
    have := asc_ext ha.2 hb.2 (fun z => by
      have hz := h z
      simp only [List.mem_cons] at hz
      constructor
      · intro hm
        rcases hz.1 (.inr hm) with e | h3
        · have := ha.1 z hm; omega
        · exact h3
      · intro hm
        rcases hz.2 (.inr hm) with e | h3
        · have := hb.1 z hm; omega
        · exact h3)
    rw [this]
theorem comp_inv (d : Array Int) (hs : ∀ i j, i ≤ j → j < d.size → d[i]! ≤ d[j]!) : ∀ m, m ≤ d.size →
    (Lib.compactUpTo d m).Pairwise (· < ·) ∧ (∀ x, x ∈ Lib.compactUpTo d m ↔ ∃ j, j < m ∧ d[j]! = x) := by
  intro m
  induction m with
  | zero => intro _; exact ⟨by simp [Lib.compactUpTo], fun x => by simp [Lib.compactUpTo]⟩
  | succ m ih =>
    intro hm
    obtain ⟨h1, h2⟩ := ih (by omega)
    rw [Lib.compactUpTo_succ]
    by_cases hk : Lib.keeps d m = true
    · rw [if_pos hk]
      have hk' : m = 0 ∨ d[m]! ≠ d[m - 1]! := by simpa [Lib.keeps] using hk
      refine ⟨List.pairwise_append.2 ⟨h1, by simp, fun x hx y hy => ?_⟩, fun x => ?_⟩
      · rw [List.mem_singleton] at hy
        subst hy
        obtain ⟨j, hj, rfl⟩ := (h2 x).1 hx
        have a1 := hs j (m - 1) (by omega) (by omega)
        have a2 := hs (m - 1) m (by omega) (by omega)
        rcases hk' with e | e
        · omega
        · omega
      · rw [List.mem_append, List.mem_singleton, h2]
        constructor
        · rintro (⟨j, hj, e⟩ | rfl)
          · exact ⟨j, by omega, e⟩
          · exact ⟨m, by omega, rfl⟩
        · rintro ⟨j, hj, e⟩
          by_cases hjm : j = m
          · subst hjm; exact .inr e.symm
          · exact .inl ⟨j, by omega, e⟩
    · rw [if_neg hk, List.append_nil]
      have hk' : ¬ (m = 0 ∨ d[m]! ≠ d[m - 1]!) := by simpa [Lib.keeps] using hk
      refine ⟨h1, fun x => ?_⟩
      rw [h2]
      constructor
      · rintro ⟨j, hj, e⟩; exact ⟨j, by omega, e⟩
      · rintro ⟨j, hj, e⟩
        by_cases hjm : j = m
        · subst hjm
          exact ⟨j - 1, by omega, by have : d[j]! = d[j - 1]! := by by_cases h : d[j]! = d[j - 1]!; exact h; exact absurd (Or.inr h) hk'
                                     rw [← this]; exact e⟩
        · exact ⟨j, by omega, e⟩
theorem compact_sorted (l : List Int) : (Lib.compact (l.mergeSort fun x y => decide (x ≤ y))).Pairwise (· < ·) ∧ ∀ x, x ∈ Lib.compact (l.mergeSort fun x y => decide (x ≤ y)) ↔ x ∈ l := by
  obtain ⟨s, hs⟩ : ∃ s, s = l.mergeSort fun x y => decide (x ≤ y) := ⟨_, rfl⟩
  have hp : s.Pairwise (fun x y => decide (x ≤ y) = true) := by
    rw [hs]
    exact List.pairwise_mergeSort (fun a b c h1 h2 => by simp only [decide_eq_true_eq] at *; omega) (fun a b => by simp only [Bool.or_eq_true, decide_eq_true_eq]; omega) l
  have hm : ∀ x, x ∈ s ↔ x ∈ l := fun x => by rw [hs]; exact (List.mergeSort_perm l _).mem_iff
  rw [← hs]
  have hsz : s.toArray.size = s.length := by simp
  have := comp_inv s.toArray (fun i j hij hj => by
    have hj' : j < s.length := by simpa using hj
    by_cases e : i = j
    · subst e; exact Int.le_refl _
    · have h3 := List.pairwise_iff_getElem.1 hp i j (by omega) hj' (by omega)
      simp only [decide_eq_true_eq] at h3
      simpa [List.getElem!_toArray, getElem!_pos, show i < s.length by omega, hj'] using h3) s.length (by simp)
  unfold Lib.compact
  refine ⟨this.1, fun x => ?_⟩
  rw [this.2, ← hm]
  constructor
  · rintro ⟨j, hj, rfl⟩
    simp [hj]
  · intro hx
    obtain ⟨j, hj, rfl⟩ := List.mem_iff_getElem.1 hx
    exact ⟨j, hj, by simp [hj]⟩

/-! the reference's merge sort that drops equals -/
def pushL (out : List Int) (x : Int) : List Int := if out.getLast? = some x then out else out ++ [x]
theorem rdS (xs : List Int) (i : Nat) (h : i < xs.length) : rd xs (i : Int) = xs[i] := by simp [rd, List.getD, h]
theorem push_eq {β : Type} (G : List Int → Option β) (out : List Int) (x : Int) (hb : out.length ≤ 67108864) :
    (if (out.length : Int) = 0 then (if out.length < 17592186044416 then G (out ++ [x]) else none) else (if 0 ≤ (wrap64 ((out.length : Int) - 1)) then (if (wrap64 ((out.length : Int) - 1)) < (out.length : Int) then (if (rd out (wrap64 ((out.length : Int) - 1))) = x then G out else (if out.length < 17592186044416 then G (out ++ [x]) else none)) else none) else none)) = G (pushL out x) := by
  by_cases h : out.length = 0
  · have e : out = [] := List.length_eq_zero_iff.1 h
    subst e
    simp [pushL]
  · have e1 : wrap64 ((out.length : Int) - 1) = ((out.length - 1 : Nat) : Int) := by rw [w64 (by omega) (by omega)]; omega
    rw [if_neg (by omega), e1, if_pos (by omega), if_pos (by omega), rdS out (out.length - 1) (by omega)]
    have e2 : out.getLast? = some (out[out.length - 1]'(by omega)) := by rw [List.getLast?_eq_getElem?, List.getElem?_eq_getElem (by omega)]
    unfold pushL
    rw [e2]
    by_cases h2 : out[out.length - 1]'(by omega) = x
    · rw [if_pos h2, if_pos (by rw [h2])]
    · rw [if_neg h2, if_pos (by omega), if_neg (by simpa using h2)]
theorem push_mem (out : List Int) (x y : Int) : y ∈ pushL out x ↔ y ∈ out ∨ y = x := by
  unfold pushL
  split
  · next h =>
    have := List.mem_of_getLast? h
    constructor
    · exact .inl
    · rintro (h1 | rfl)
      · exact h1
      · exact this
  · simp
theorem push_asc (out : List Int) (x : Int) (ha : out.Pairwise (· < ·)) (hl : ∀ y ∈ out, y ≤ x) : (pushL out x).Pairwise (· < ·) := by
  unfold pushL
  split
  · exact ha
  · next h =>
    refine List.pairwise_append.2 ⟨ha, by simp, fun y hy z hz => ?_⟩
    rw [List.mem_singleton] at hz
    subst hz
    have h1 := hl y hy
    by_cases e : y = z
    · subst e
      exfalso
      obtain ⟨i, hi, rfl⟩ := List.mem_iff_getElem.1 hy
      apply h
      rw [List.getLast?_eq_getElem?, List.getElem?_eq_getElem (by omega)]
      by_cases e2 : i = out.length - 1
      · subst e2; rfl
      · have h3 := List.pairwise_iff_getElem.1 ha i (out.length - 1) hi (by omega) (by omega)
        have h4 := hl _ (List.getElem_mem (show out.length - 1 < out.length by omega))
        omega
    · omega
theorem push_len (out : List Int) (x : Int) : (pushL out x).length ≤ out.length + 1 := by
  unfold pushL
  split <;> simp
theorem merge_l (a b : List Int) (ha : a.Pairwise (· < ·)) (hb : b.Pairwise (· < ·)) (la : a.length ≤ 16777216) (lb : b.length ≤ 16777216) : ∀ (n i j k : Nat) (out : List Int), i ≤ a.length → j ≤ b.length → (a.length - i) + (b.length - j) = n → 3 * n + 3 ≤ k → out.length ≤ i + j →
    out.Pairwise (· < ·) → (∀ x ∈ out, (∀ y ∈ a.drop i, x ≤ y) ∧ (∀ y ∈ b.drop j, x ≤ y)) →
    ∃ r, spec_l11Sorted.l0 k a b out (i : Int) (j : Int) = some r ∧ r.Pairwise (· < ·) ∧ r.length ≤ out.length + n ∧ ∀ x, x ∈ r ↔ x ∈ out ∨ x ∈ a.drop i ∨ x ∈ b.drop j := by
  intro n
  induction n with
  | zero =>
    intro i j k out hi hj hn hk hl ho hx
    obtain ⟨k, rfl⟩ := ksucc (show 0 < k by omega)
    obtain ⟨k, rfl⟩ := ksucc (show 0 < k by omega)
    rw [spec_l11Sorted.l0, if_neg (by omega), decide_eq_false (by omega), spec_l11Sorted.j1, if_neg (by simp)]
    refine ⟨out, rfl, ho, by omega, fun x => ?_⟩
    rw [List.drop_eq_nil_of_le (by omega), List.drop_eq_nil_of_le (by omega)]
    simp
  | succ n ih =>
    intro i j k out hi hj hn hk hl ho hx
    obtain ⟨k, rfl⟩ := ksucc (show 0 < k by omega)
    obtain ⟨k, rfl⟩ := ksucc (show 0 < k by omega)
    obtain ⟨k, rfl⟩ := ksucc (show 0 < k by omega)
    have e0 : spec_l11Sorted.l0 (k + 1 + 1 + 1) a b out (i : Int) (j : Int) = spec_l11Sorted.j1 (k + 1 + 1) a b out (i : Int) (j : Int) true := by
      rw [spec_l11Sorted.l0]
      by_cases h : (i : Int) < a.length
      · rw [if_pos h]
      · rw [if_neg h, decide_eq_true (by omega)]
    have takeA : ∀ (h : i < a.length), (∀ y ∈ b.drop j, a[i] ≤ y) → ∃ r, spec_l11Sorted.j2 (k + 1) a b out (i : Int) (j : Int) true = some r ∧ r.Pairwise (· < ·) ∧ r.length ≤ out.length + (n + 1) ∧ ∀ x, x ∈ r ↔ x ∈ out ∨ x ∈ a.drop i ∨ x ∈ b.drop j := by
      intro h hle
      rw [spec_l11Sorted.j2, if_pos rfl, if_pos (by omega), if_pos (by omega), rdS a i h, wnat (i := i) (by omega), push_eq (fun o => spec_l11Sorted.l0 k a b o ((i + 1 : Nat) : Int) (j : Int)) out a[i] (by omega)]
      have hd := List.drop_eq_getElem_cons h
      have hpa := ha.drop (i := i)
      rw [hd, List.pairwise_cons] at hpa
      obtain ⟨r, h1, h2, hL, h3⟩ := ih (i + 1) j k (pushL out a[i]) (by omega) hj (by omega) (by omega) (by have := push_len out a[i]; omega)
        (push_asc out _ ho (fun y hy => (hx y hy).1 _ (by rw [hd]; exact List.mem_cons_self)))
        (fun x hxm => by
          rcases (push_mem out _ x).1 hxm with h4 | rfl
          · exact ⟨fun y hy => (hx x h4).1 y (by rw [hd]; exact List.mem_cons_of_mem _ hy), (hx x h4).2⟩
          · exact ⟨fun y hy => by have := hpa.1 y hy; omega, hle⟩)
      refine ⟨r, h1, h2, by have := push_len out a[i]; omega, fun x => ?_⟩
      rw [h3, push_mem, hd, List.mem_cons]
      constructor
      · rintro ((h | h) | h | h)
        · exact .inl h
        · exact .inr (.inl (.inl h))
        · exact .inr (.inl (.inr h))
        · exact .inr (.inr h)
      · rintro (h | (h | h) | h)
        · exact .inl (.inl h)
        · exact .inl (.inr h)
        · exact .inr (.inl h)
        · exact .inr (.inr h)
    have takeB : ∀ (h : j < b.length), (∀ y ∈ a.drop i, b[j] ≤ y) → ∃ r, spec_l11Sorted.j2 (k + 1) a b out (i : Int) (j : Int) false = some r ∧ r.Pairwise (· < ·) ∧ r.length ≤ out.length + (n + 1) ∧ ∀ x, x ∈ r ↔ x ∈ out ∨ x ∈ a.drop i ∨ x ∈ b.drop j := by
      intro h hle
      rw [spec_l11Sorted.j2, if_neg (by simp), if_pos (by omega), if_pos (by omega), rdS b j h, wnat (i := j) (by omega), push_eq (fun o => spec_l11Sorted.l0 k a b o (i : Int) ((j + 1 : Nat) : Int)) out b[j] (by omega)]
      have hd := List.drop_eq_getElem_cons h
      have hpa := hb.drop (i := j)
      rw [hd, List.pairwise_cons] at hpa
      obtain ⟨r, h1, h2, hL, h3⟩ := ih i (j + 1) k (pushL out b[j]) hi (by omega) (by omega) (by omega) (by have := push_len out b[j]; omega)
        (push_asc out _ ho (fun y hy => (hx y hy).2 _ (by rw [hd]; exact List.mem_cons_self)))
        (fun x hxm => by
          rcases (push_mem out _ x).1 hxm with h4 | rfl
          · exact ⟨(hx x h4).1, fun y hy => (hx x h4).2 y (by rw [hd]; exact List.mem_cons_of_mem _ hy)⟩
          · exact ⟨hle, fun y hy => by have := hpa.1 y hy; omega⟩)
      refine ⟨r, h1, h2, by have := push_len out b[j]; omega, fun x => ?_⟩
      rw [h3, push_mem, hd, List.mem_cons]
      constructor
      · rintro ((h | h) | h | h)
        · exact .inl h
        · exact .inr (.inr (.inl h))
        · exact .inr (.inl h)
        · exact .inr (.inr (.inr h))
      · rintro (h | h | (h | h))
        · exact .inl (.inl h)
        · exact .inr (.inl h)
        · exact .inl (.inr h)
        · exact .inr (.inr h)
    rw [e0, spec_l11Sorted.j1, if_pos rfl]
    by_cases hjb : b.length ≤ j
    · rw [if_pos (by omega)]
      exact takeA (by omega) (fun y hy => by rw [List.drop_eq_nil_of_le hjb] at hy; simp at hy)
    · rw [if_neg (by omega)]
      by_cases hia : i < a.length
      · rw [if_pos (by omega), if_pos (by omega), if_pos (by omega), if_pos (by omega), rdS a i hia, rdS b j (by omega)]
        have hdA := List.drop_eq_getElem_cons hia
        have hdB := List.drop_eq_getElem_cons (show j < b.length by omega)
        have pA := ha.drop (i := i)
        have pB := hb.drop (i := j)
        rw [hdA, List.pairwise_cons] at pA
        rw [hdB, List.pairwise_cons] at pB
        by_cases hc : a[i] ≤ b[j]'(by omega)
        · rw [decide_eq_true hc]
          exact takeA hia (fun y hy => by rw [hdB, List.mem_cons] at hy; rcases hy with rfl | hy; exact hc; have := pB.1 y hy; omega)
        · rw [decide_eq_false hc]
          exact takeB (by omega) (fun y hy => by rw [hdA, List.mem_cons] at hy; rcases hy with rfl | hy; omega; have := pA.1 y hy; omega)
      · rw [if_neg (by omega)]
        exact takeB (by omega) (fun y hy => by rw [List.drop_eq_nil_of_le (by omega)] at hy; simp at hy)
theorem sorted_ev : ∀ (N : Nat) (l : List Int) (k : Nat), l.length ≤ N → l.length ≤ 16777216 → 4 * N + 10 ≤ k →
    ∃ r, spec_l11Sorted.f k l = some r ∧ r.Pairwise (· < ·) ∧ r.length ≤ l.length ∧ (∀ x, x ∈ r ↔ x ∈ l) := by
  intro N
  induction N with
  | zero =>
    intro l k h hb hk
    obtain ⟨k, rfl⟩ := ksucc (show 0 < k by omega)
    have e : l = [] := List.length_eq_zero_iff.1 (by omega)
    subst e
    exact ⟨[], by rw [spec_l11Sorted.f, if_pos (by simp)]; rfl, by simp, by simp, by simp⟩
  | succ N ih =>
    intro l k h hb hk
    obtain ⟨k, rfl⟩ := ksucc (show 0 < k by omega)
    by_cases h2 : (l.length : Int) < 2
    · refine ⟨l, by rw [spec_l11Sorted.f, if_pos h2]; simp; omega, ?_, Nat.le_refl _, by simp⟩
      match l, h2 with
      | [], _ => simp
      | [x], _ => simp
      | x :: y :: t, h2 => simp at h2; omega
    · have e1 : wrap64 ((l.length : Int) / 2) = ((l.length / 2 : Nat) : Int) := by rw [w64 (by omega) (by omega)]; omega
      obtain ⟨a, a1, a2, aL, a3⟩ := ih (l.take (l.length / 2)) k (by rw [List.length_take]; omega) (by rw [List.length_take]; omega) (by omega)
      obtain ⟨b, b1, b2, bL, b3⟩ := ih (l.drop (l.length / 2)) k (by rw [List.length_drop]; omega) (by rw [List.length_drop]; omega) (by omega)
      rw [List.length_take] at aL
      rw [List.length_drop] at bL
      obtain ⟨r, r1, r2, rL, r3⟩ := merge_l a b a2 b2 (by omega) (by omega) (a.length + b.length) 0 0 k [] (by omega) (by omega) (by omega) (by omega) (by simp) (by simp) (by simp)
      refine ⟨r, ?_, r2, by simp at rL; omega, fun x => ?_⟩
      · rw [spec_l11Sorted.f, if_neg h2, e1, if_pos (by omega), if_pos (by omega), Int.toNat_natCast, a1, Option.bind_some, b1, Option.bind_some]
        exact r1
      · rw [r3, List.drop_zero, List.drop_zero, a3, b3]
        constructor
        · rintro (h | h | h)
          · simp at h
          · exact List.mem_of_mem_take h
          · exact List.mem_of_mem_drop h
        · intro h
          rw [← List.take_append_drop (l.length / 2) l, List.mem_append] at h
          rcases h with h | h
          · exact .inr (.inl h)
          · exact .inr (.inr h)
theorem sorted_same (l : List Int) (hb : l.length ≤ 16777216) (k : Nat) (hk : 4 * l.length + 10 ≤ k) : spec_l11Sorted.f k l = some (Lib.compact (l.mergeSort fun x y => decide (x ≤ y))) := by
  obtain ⟨r, h1, h2, _, h3⟩ := sorted_ev l.length l k (Nat.le_refl _) hb hk
  obtain ⟨h4, h5⟩ := compact_sorted l
  rw [h1, asc_ext h2 h4 (fun x => by rw [h3, h5])]

theorem names_l (cs : List S120) (rs : List S123) (hb : cs.length ≤ 1048576) (hr : rs.length ≤ 1048576) : ∀ (d i k : Nat) (out : List Int), i + d = cs.length → 2 * d + 8388630 < k → out.length ≤ i →
    ∃ r, spec_NamesIn.l0 k cs rs out (i : Int) = some r ∧ impl_NamesIn.l0 k rs out cs (cs.length : Int) (i : Int) = some r ∧ r.length ≤ 1048576 := by
  have done : ∀ (k : Nat) (out : List Int), 8388620 < k → out.length ≤ 1048576 → ∃ r, (spec_l11Sorted.f k out) = some r ∧ impl_ordered.f out = some r ∧ r.length ≤ 1048576 := by
    intro k out hk ho
    refine ⟨_, sorted_same out (by omega) k (by omega), by unfold impl_ordered.f; rw [if_pos (by omega)], ?_⟩
    have h1 := Lib.compact_length_le (out.mergeSort fun x y => decide (x ≤ y))
    rw [List.length_mergeSort] at h1
    omega
  have implOut : ∀ (d i k : Nat) (out : List Int), i + d = cs.length → d < k → rs.length ≤ i → impl_NamesIn.l0 k rs out cs (cs.length : Int) (i : Int) = impl_ordered.f out := by
    intro d
    induction d with
    | zero =>
      intro i k out h hk hi
      obtain ⟨k, rfl⟩ := ksucc hk
      rw [impl_NamesIn.l0, if_neg (by omega)]
      cases impl_ordered.f out <;> rfl
    | succ d ih =>
      intro i k out h hk hi
      obtain ⟨k, rfl⟩ := ksucc hk
      have e := ih (i + 1) k out (by omega) (by omega) (by omega)
      rw [impl_NamesIn.l0, if_pos (by omega), if_pos (by omega), if_pos (by omega), wnat (by omega), if_neg (show ¬ (i : Int) < (rs.length : Int) by omega)]
      split <;> exact e
  intro d
  induction d with
  | zero =>
    intro i k out h hk ho
    obtain ⟨k, rfl⟩ := ksucc (show 0 < k by omega)
    obtain ⟨k, rfl⟩ := ksucc (show 0 < k by omega)
    obtain ⟨r, e1, e2, e3⟩ := done k out (by omega) (by omega)
    refine ⟨r, ?_, ?_, e3⟩
    · rw [spec_NamesIn.l0, if_neg (by omega), spec_NamesIn.j1, if_neg (by simp), e1]; rfl
    · rw [impl_NamesIn.l0, if_neg (by omega), e2]; rfl
  | succ d ih =>
    intro i k out h hk ho
    obtain ⟨k, rfl⟩ := ksucc (show 0 < k by omega)
    obtain ⟨k, rfl⟩ := ksucc (show 0 < k by omega)
    have hi : i < cs.length := by omega
    by_cases hir : i < rs.length
    · by_cases h3 : (rd_T120 cs (i : Int)).f0 = 3
      · by_cases h0 : (rd_T123 rs (i : Int)).f0 = 0
        · obtain ⟨r, e1, e2, e3⟩ := ih (i + 1) k (out ++ [(rd_T120 cs (i : Int)).f1]) (by omega) (by omega) (by first | omega | (simp; omega))
          refine ⟨r, ?_, ?_, e3⟩
          · rw [spec_NamesIn.l0, if_pos (by omega), spec_NamesIn.j1, decide_eq_true (show (i : Int) < (rs.length : Int) by omega), if_pos rfl, if_pos (by omega), if_pos (by omega), if_pos h3, if_pos (by omega), if_pos h0, if_pos (by omega), wnat (by omega)]
            exact e1
          · rw [impl_NamesIn.l0, if_pos (by omega), if_pos (by omega), if_pos (by omega), if_pos h3, if_pos (by omega), if_pos h0, if_pos (by omega), wnat (by omega)]
            exact impl_NamesIn.mono_l _ _ _ _ _ _ _ e2
        · obtain ⟨r, e1, e2, e3⟩ := ih (i + 1) k (out) (by omega) (by omega) (by first | omega | (simp; omega))
          refine ⟨r, ?_, ?_, e3⟩
          · rw [spec_NamesIn.l0, if_pos (by omega), spec_NamesIn.j1, decide_eq_true (show (i : Int) < (rs.length : Int) by omega), if_pos rfl, if_pos (by omega), if_pos (by omega), if_pos h3, if_pos (by omega), if_neg h0, wnat (by omega)]
            exact e1
          · rw [impl_NamesIn.l0, if_pos (by omega), if_pos (by omega), if_pos (by omega), if_pos h3, if_pos (by omega), if_neg h0, wnat (by omega)]
            exact impl_NamesIn.mono_l _ _ _ _ _ _ _ e2
      · obtain ⟨r, e1, e2, e3⟩ := ih (i + 1) k (out) (by omega) (by omega) (by first | omega | (simp; omega))
        refine ⟨r, ?_, ?_, e3⟩
        · rw [spec_NamesIn.l0, if_pos (by omega), spec_NamesIn.j1, decide_eq_true (show (i : Int) < (rs.length : Int) by omega), if_pos rfl, if_pos (by omega), if_pos (by omega), if_neg h3, wnat (by omega)]
          exact e1
        · rw [impl_NamesIn.l0, if_pos (by omega), if_pos (by omega), if_pos (by omega), if_neg h3, wnat (by omega)]
          exact impl_NamesIn.mono_l _ _ _ _ _ _ _ e2
    · obtain ⟨r, e1, e2, e3⟩ := done k out (by omega) (by omega)
      refine ⟨r, ?_, (implOut (d + 1) i (k + 1 + 1) out h (by omega) (by omega)).trans e2, e3⟩
      rw [spec_NamesIn.l0, if_pos (by omega), spec_NamesIn.j1, decide_eq_false (show ¬ (i : Int) < (rs.length : Int) by omega), if_neg (by simp), e1]; rfl
theorem names_ev (cs : List S120) (rs : List S123) (hb : cs.length ≤ 1048576) (hr : rs.length ≤ 1048576) : ∃ r : List Int, r.length ≤ 1048576 ∧ ∀ k, 20000000 < k → spec_NamesIn.f k cs rs = some r ∧ impl_NamesIn.f k cs rs = some r := by
  obtain ⟨k0, h0⟩ : ∃ k0, k0 = 20000001 := ⟨_, rfl⟩
  obtain ⟨r, u1, u2, u3⟩ := names_l cs rs hb hr cs.length 0 k0 [] (by omega) (by omega) (by simp)
  have v1 : spec_NamesIn.f k0 cs rs = some r := u1
  have v2 : impl_NamesIn.f k0 cs rs = some r := u2
  exact ⟨r, u3, fun k hk => ⟨at_rounds (g := fun k => spec_NamesIn.f k cs rs) (fun k => spec_NamesIn.mono _ _ k) (by omega) v1, at_rounds (g := fun k => impl_NamesIn.f k cs rs) (fun k => impl_NamesIn.mono _ _ k) (by omega) v2⟩⟩
theorem FnExactNamesIn : OpFnExactNamesIn.Pure := by
  intro xs ys ⟨hw, _⟩ ⟨hy, hyy⟩
  obtain ⟨K, hK1, hK⟩ : ∃ K, xs.length + ys.length < K ∧ 40000000 < K := ⟨xs.length + ys.length + 40000001, by omega, by omega⟩
  refine ⟨K + 1, ?_⟩
  unfold laws_FnExactNamesIn.f
  rw [szCmdS_eq xs hw]
  simp only [Option.bind_some]
  by_cases h1 : xs.length ≤ 1048576
  · rw [if_pos h1, if_neg (by omega)]
    obtain ⟨t, e1, _, e2⟩ := szReplyS_ev ys hy (fun x hx => (hyy x hx).2.2.1) (K + 1) (by omega) (1048576 - (xs.length : Int)) (by omega) (by omega)
    rw [e1]
    simp only [Option.bind_some]
    by_cases ht : t < 0
    · rw [if_pos ht]
    obtain ⟨b1, b2⟩ := e2 (by omega)
    have b3 : (ys.map cvReply).length ≤ 1048576 := by simpa using b1
    have b4 : ∀ x ∈ ys.map cvReply, x.f2.length ≤ 1048576 := by
      intro x hx
      obtain ⟨y, hy, rfl⟩ := List.mem_map.1 hx
      simpa [cvReply] using b2 y hy
    have b5 : (xs.map cv).length ≤ 1048576 := by simpa using h1
    obtain ⟨r, hr, hn⟩ := names_ev (xs.map cv) (ys.map cvReply) b5 b3
    have hl1 : (xs.map cv).length = xs.length := by simp
    have hl2 : (ys.map cvReply).length = ys.length := by simp
    have hm := markCmdS_ev (xs.map cv) b5 (K + 1) (by omega)
    obtain ⟨q, m1, m2, _⟩ := markReplyA (K + 1) (by omega) (ys.map cvReply) (1 + 3 * ((xs.map cv).length : Int)) (by omega) (by omega) b4
    have mk := markIntS_ev r 1 (by omega) (by omega) K (by omega)
    rw [show ((1 : Nat) : Int) = 1 from rfl] at mk
    have hd := heldIntS_ev 1 r.length (by omega) (by omega) K (by omega)
    rw [show ((1 : Nat) : Int) = 1 from rfl] at hd
    rw [if_neg ht, toCmdS_ev xs h1 _ (by omega), toReplyS_ev ys b1 b2 _ (by omega)]
    simp only [Option.bind_some]
    rw [(hn (K + 1) (by omega)).1, (hn (K + 1) (by omega)).2]
    simp only [Option.bind_some]
    rw [eqIntS_ev r (by omega) (K + 1) (by omega)]
    simp only [Option.bind_some, if_true]
    rw [eqCmdS_ev _ b5 (K + 1) (by omega), eqReplyS_ev _ b3 b4 (K + 1) (by omega)]
    simp only [Option.bind_some, if_true]
    rw [hm]
    simp only [Option.bind_some]
    unfold laws_markReplyS.f
    rw [m1]
    simp only [Option.bind_some]
    rw [if_neg (by omega)]
    simp only [Bool.not_true]
    rw [laws_FnExactNamesIn.j0, if_neg (by simp), mk]
    simp only [Option.bind_some]
    rw [hd]
    simp only [Option.bind_some]
    rw [if_neg (by omega), if_pos trivial, toCmdS_ev xs h1 _ (by omega), toReplyS_ev ys b1 b2 _ (by omega)]
    simp only [Option.bind_some]
    rw [(hn K (by omega)).2]
    simp only [Option.bind_some]
    rw [eqIntS_ev r (by omega) K (by omega)]
    simp only [Option.bind_some, if_true]
    rw [if_neg (by omega)]
  · rw [if_neg h1]; rfl

end Go.Proofs.Ytfinjkjnoobbjaa.Pure
