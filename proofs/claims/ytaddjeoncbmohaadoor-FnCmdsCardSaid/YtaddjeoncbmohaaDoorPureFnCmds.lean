/- The law FnCmds over numbers and lists alone: it answers true for every input; no condition beside the bounds of the kinds. -/
import Derived.Test.YtaddjeoncbmohaaDoorMFnCmdsx
import Derived.Test.YtaddjeoncbmohaaDoorOpFnCmds
import Derived.Lib.ItoaLen
import Derived.Lib.AtoiTie
import Derived.Lib.SplitLaws
import Derived.Laws.BitsLemmas
namespace Go.Proofs.YtaddjeoncbmohaaDoor.Pure
open Go.RowKit Go.Proofs.YtaddjeoncbmohaaDoor.MFnCmds Go.Proofs.YtaddjeoncbmohaaDoorW.PrintWords Go.Proofs.YtaddjeoncbmohaaDoorW.PrintLast Go.Proofs.YtaddjeoncbmohaaDoor
set_option linter.unusedVariables false
set_option linter.unusedSimpArgs false

theorem w64 {x : Int} (h1 : -9223372036854775808 ≤ x) (h2 : x ≤ 9223372036854775807) : wrap64 x = x := by unfold wrap64; omega
theorem wnat {i : Nat} (h : i < 4611686018427387904) : wrap64 ((i : Int) + 1) = ((i + 1 : Nat) : Int) := by unfold wrap64; omega
theorem ksucc {k d : Nat} (h : d < k) : ∃ m, k = m + 1 := ⟨k - 1, by omega⟩

/-! texts as lists of bytes -/
def ofL (l : List UInt8) : ByteArray := ⟨l.toArray⟩
theorem ofL_app (a b : List UInt8) : ofL a ++ ofL b = ofL (a ++ b) := by apply ByteArray.ext; simp [ofL]
theorem ofL_size (a : List UInt8) : (ofL a).size = a.length := by simp [ofL, ByteArray.size]
theorem ofL_nil (x : ByteArray) : ofL [] ++ x = x := by apply ByteArray.ext; simp [ofL]
theorem ofL_list (a : List UInt8) : (ofL a).data.toList = a := by simp [ofL]
theorem ofL_of (x : ByteArray) : ofL x.data.toList = x := by apply ByteArray.ext; simp [ofL]

/-! the words of the kinds -/
/-- The word of a kind, and how many numbers follow it. -/
def word (a : Int) : List UInt8 × Int :=
  if a = 1 then ([111, 114, 100, 101, 114], 1) else if a = 2 then ([116, 105, 99, 107], 0) else if a = 3 then ([114, 101, 103, 105, 115, 116, 101, 114], 2) else if a = 4 then ([99, 108, 97, 105, 109], 1) else if a = 5 then ([114, 101, 108, 101, 97, 115, 101], 1) else if a = 6 then ([109, 111, 118, 101], 2) else if a = 7 then ([97, 99, 107], 1) else ([99, 97, 110, 99, 101, 108], 0)
theorem word_ok (a : Int) : (word a).1 ≠ [] ∧ (word a).1.length ≤ 8 ∧ 0 ≤ (word a).2 ∧ (word a).2 ≤ 2 := by
  unfold word
  repeat' split
  all_goals exact ⟨by decide, by decide, by decide, by decide⟩

/-! reading a numeral -/
theorem digitVal_fig (d : Nat) (h : d < 10) : Lib.digitVal (UInt8.ofNat (48 + d)) = some d := by
  have e : (UInt8.ofNat (48 + d)).toNat = 48 + d := by simp; omega
  unfold Lib.digitVal
  rw [e, if_pos (by omega)]
  congr 1
  omega
theorem decFrom_app (l : List UInt8) : ∀ (acc : Nat) (b : UInt8), Lib.decFrom acc (l ++ [b]) = (Lib.decFrom acc l).bind fun n => (Lib.digitVal b).map fun d => n * 10 + d := by
  induction l with
  | nil => intro acc b; simp only [List.nil_append, Lib.decFrom]; cases Lib.digitVal b <;> rfl
  | cons a r ih =>
    intro acc b
    simp only [List.cons_append, Lib.decFrom]
    cases Lib.digitVal a with
    | none => rfl
    | some d => exact ih _ b
theorem decFrom_digits (u : Nat) : Lib.decFrom 0 (Lib.decDigits u) = some u := by
  induction u using Nat.strongRecOn with
  | _ u ih =>
    by_cases h : u < 10
    · rw [Lib.decDigits, dif_pos h]
      simp only [Lib.decFrom]
      rw [digitVal_fig u h]
      simp
    · rw [Lib.decDigits, dif_neg h, decFrom_app, ih (u / 10) (by omega), digitVal_fig _ (by omega)]
      simp only [Option.bind_some, Option.map_some]
      congr 1
      omega
theorem nDigits_le : ∀ (k u : Nat), u < 10 ^ (k + 1) → Lib.nDigits u ≤ k + 1
  | 0, u, h => by rw [Lib.nDigits_small (by simpa using h)]; omega
  | k + 1, u, h => by
    by_cases h1 : u < 10
    · rw [Lib.nDigits_small h1]; omega
    · rw [Lib.nDigits_big h1]
      rw [Nat.pow_succ] at h
      have := nDigits_le k (u / 10) (by omega)
      omega
def numO (L : List UInt8) : Int × Bool := match Lib.decFrom 0 L with
  | some v => if v ≤ 1000000000 ∧ Lib.decDigits v = L then ((v : Int), true) else (0, false)
  | none => (0, false)
theorem numO_some (v : Nat) (h : v ≤ 1000000000) : numO (Lib.decDigits v) = ((v : Int), true) := by
  unfold numO; rw [decFrom_digits]; simp [h]
theorem numO_none (L : List UInt8) (h : ∀ v, v ≤ 1000000000 → Lib.decDigits v ≠ L) : numO L = (0, false) := by
  unfold numO
  split
  · rw [if_neg (fun t => h _ t.1 t.2)]
  · rfl
theorem atoi_digits (v : Nat) (h : v ≤ 1000000000) : Lib.atoiAll (Lib.decDigits v) = .ok (v : Int) := by
  have hl : (Lib.decDigits v).length ≤ 10 := by rw [Lib.decDigits_length]; exact nDigits_le 9 v (by omega)
  rw [Lib.atoiAll_short _ (by omega)]
  have hp : 1 ≤ (Lib.decDigits v).length := by rw [Lib.decDigits_length]; exact Lib.nDigits_pos v
  have hd := decFrom_digits v
  generalize Lib.decDigits v = L at hd hp ⊢
  cases L with
  | nil => simp at hp
  | cons b r =>
    obtain ⟨d, hb⟩ := Lib.digit_of_decFrom _ _ _ hd 0 b (by simp)
    have h1 : b ≠ 45 := by rintro rfl; simp [Lib.digitVal] at hb
    have h2 : b ≠ 43 := by rintro rfl; simp [Lib.digitVal] at hb
    simp only [Lib.atoi, beq_iff_eq, if_neg h1, if_neg h2, Lib.decNat, List.isEmpty_cons, hd]
    rfl
theorem list_len (s : ByteArray) : s.data.toList.length = s.size := by rw [Array.length_toList]; rfl
theorem bt_get (s : ByteArray) (i : Nat) (h : i < s.size) : bt s (i : Int) = ((s.data.toList[i]'(by rw [list_len]; exact h)).toNat : Int) := by
  unfold bt
  rw [dif_pos (by simpa using h)]
  simp [ByteArray.getElem_eq_getElem_data]

/-! the program's reading of a numeral -/
theorem implRD (s : ByteArray) (h : s.size ≤ 140737488355328) : impl_ReadDecimal.f s = some (numO s.data.toList) := by
  unfold impl_ReadDecimal.f impl_signed.f
  rw [if_pos h]
  by_cases hx : ∃ v, v ≤ 1000000000 ∧ Lib.decDigits v = s.data.toList
  · obtain ⟨v, hv, e⟩ := hx
    rw [← e, atoi_digits v hv, numO_some v hv]
    simp only
    rw [if_neg (by omega), if_neg (by omega), if_pos (by rw [ByteArray.toList_eq, ByteArray.toList_eq, Lib.itoa_nonneg, ← e])]
    rfl
  · have hn : numO s.data.toList = (0, false) := numO_none _ (fun v hv e => hx ⟨v, hv, e⟩)
    rw [hn]
    split
    · rename_i v _
      by_cases h1 : v < 0
      · rw [if_pos h1]; rfl
      · rw [if_neg h1]
        by_cases h2 : v > 1000000000
        · rw [if_pos h2]; rfl
        · rw [if_neg h2, if_neg]
          · rfl
          · intro e
            rw [ByteArray.toList_eq, ByteArray.toList_eq] at e
            obtain ⟨u, rfl⟩ : ∃ u : Nat, v = u := ⟨v.toNat, by omega⟩
            rw [Lib.itoa_nonneg] at e
            exact hx ⟨u, by omega, by simpa using e⟩
    · rfl

/-! a text cut at each of its bytes of one kind -/
def cutA (c : UInt8) : List UInt8 → List UInt8 → List (List UInt8)
  | cur, [] => [cur]
  | cur, b :: r => if b = c then cur :: cutA c [] r else cutA c (cur ++ [b]) r
theorem index_eq (c : UInt8) (l : List UInt8) : Lib.index (c :: l) [c] = ((0 : Nat) : Int) := by rw [Lib.index]; simp [List.isPrefixOf]
theorem index_ne (b c : UInt8) (l : List UInt8) (h : b ≠ c) : Lib.index (b :: l) [c] = if Lib.index l [c] == -1 then -1 else Lib.index l [c] + 1 := by
  have hp : ([c] : List UInt8).isPrefixOf (b :: l) = false := by simp [List.isPrefixOf, Ne.symm h]
  rw [Lib.index, hp]; simp
theorem cut_split (c : UInt8) : ∀ (l cur : List UInt8), ∃ h t, Lib.splitK [c] 0 (Lib.count l [c]) l = h :: t ∧ cutA c cur l = (cur ++ h) :: t
  | [], cur => by rw [Lib.count_one]; exact ⟨[], [], rfl, by simp [cutA]⟩
  | b :: l, cur => by
    by_cases hb : b = c
    · subst hb
      rw [Lib.count_cons_eq, Nat.add_comm, Lib.splitK, index_eq, if_neg (by decide), cutA, if_pos rfl]
      obtain ⟨h, t, e1, e2⟩ := cut_split b l []
      refine ⟨[], cutA b [] l, ?_, by simp⟩
      simp only [List.nil_append] at e2
      rw [e2]
      simp only [List.length_cons, List.length_nil]
      simpa using e1
    · rw [Lib.count_cons_ne b c l hb, cutA, if_neg hb]
      obtain ⟨h, t, e1, e2⟩ := cut_split c l (cur ++ [b])
      rw [e2]
      rcases hn : Lib.count l [c] with _ | n
      · rw [hn] at e1
        simp only [Lib.splitK, List.cons.injEq] at e1 ⊢
        obtain ⟨rfl, rfl⟩ := e1
        exact ⟨_, _, ⟨rfl, rfl⟩, by simp⟩
      · have hm : Lib.index l [c] ≠ -1 := fun e => by rw [Lib.count_miss e] at hn; omega
        have hge := Lib.index_ge l [c]
        obtain ⟨j, hj⟩ : ∃ j : Nat, Lib.index l [c] = j := ⟨(Lib.index l [c]).toNat, by omega⟩
        have hi := index_ne b c l hb
        rw [if_neg (fun e => hm (beq_iff_eq.1 e)), hj] at hi
        rw [hn, Lib.splitK, if_neg (fun e => hm (beq_iff_eq.1 e)), hj] at e1
        rw [Lib.splitK, hi, if_neg (fun e => by have := beq_iff_eq.1 e; omega)]
        have e3 : ((j : Int)).toNat = j := by omega
        have e4 : ((j : Int) + 1).toNat = j + 1 := by omega
        simp only [e3, List.cons.injEq, Nat.add_zero] at e1
        simp only [e4, Nat.add_zero, List.length_cons, List.length_nil]
        obtain ⟨rfl, rfl⟩ := e1
        refine ⟨_, _, rfl, ?_⟩
        rw [List.take_succ_cons, show j + 1 + (0 + 1) = (j + 1) + 1 from rfl, List.drop_succ_cons]
        simp
theorem split_cut (s : ByteArray) (c : UInt8) : (Lib.splitB ⟨#[c]⟩ 0 (Lib.countB s ⟨#[c]⟩) s).map (·.data.toList) = cutA c [] s.data.toList := by
  rw [Lib.splitB_data]
  obtain ⟨h, t, e1, e2⟩ := cut_split c s.data.toList []
  rw [e2]
  exact e1
theorem cut_len (c : UInt8) : ∀ (l cur : List UInt8), ((cutA c cur l).map List.length).sum + (cutA c cur l).length = cur.length + l.length + 1
  | [], cur => by simp [cutA]
  | b :: l, cur => by
    rw [cutA]
    by_cases hb : b = c
    · rw [if_pos hb]
      have := cut_len c l []
      simp only [List.map_cons, List.sum_cons, List.length_cons, List.length_nil] at this ⊢
      omega
    · rw [if_neg hb]
      have := cut_len c l (cur ++ [b])
      simp only [List.length_append, List.length_cons, List.length_nil] at this ⊢
      omega
theorem le_sum {p : List UInt8} : ∀ {ps : List (List UInt8)}, p ∈ ps → p.length ≤ (ps.map List.length).sum
  | [], h => by simp at h
  | q :: t, h => by
    rcases List.mem_cons.1 h with rfl | h
    · simp
    · have := le_sum h; simp; omega
theorem cut_part (c : UInt8) (l : List UInt8) (p : List UInt8) (h : p ∈ cutA c [] l) : p.length ≤ l.length := by
  have h1 := cut_len c l []
  have h2 := le_sum h
  have h3 := List.length_pos_of_mem h
  simp at h1
  omega

/-! the lines of a text -/
theorem ofL_ext (s : ByteArray) (a b : Nat) : s.extract a b = ofL ((s.data.toList.drop a).take (b - a)) := by
  rw [← Lib.extract_data, ofL_of]
def linesOf (s : ByteArray) : List ByteArray := (cutA 10 [] s.data.toList).map ofL
theorem linesOf_len (s : ByteArray) : (linesOf s).length ≤ s.size + 1 := by
  have := cut_len 10 s.data.toList []
  rw [list_len] at this
  simp only [linesOf, List.length_map]
  simp at this
  omega
theorem ofL_list2 (ps : List ByteArray) : (ps.map (·.data.toList)).map ofL = ps := by
  rw [List.map_map]
  conv => rhs; rw [← List.map_id ps]
  exact List.map_congr_left (fun p _ => ofL_of p)
theorem implLines (s : ByteArray) (hs : s.size ≤ 1048576) : strings_Split.f s (⟨#[10]⟩ : ByteArray) = some (linesOf s) := by
  unfold strings_Split.f
  have hone : (⟨#[10]⟩ : ByteArray).size = 1 := rfl
  rw [if_pos ⟨by omega, by rw [hone]; omega⟩]
  have hc := split_cut s 10
  unfold linesOf
  rw [← hc, ofL_list2]

/-! draws -/
theorem mask255 (x : Int) : ∃ v : Nat, v ≤ 255 ∧ Go.bits .and .i64 x 255 = (v : Int) := by
  refine ⟨((BitVec.ofInt 64 x) &&& (BitVec.ofInt 64 255)).toNat, ?_, ?_⟩
  · rw [BitVec.toNat_and]
    exact Nat.le_trans Nat.and_le_right (by decide)
  · have h : ((BitVec.ofInt 64 x) &&& (BitVec.ofInt 64 255)).toNat ≤ 255 := by
      rw [BitVec.toNat_and]
      exact Nat.le_trans Nat.and_le_right (by decide)
    have e : Go.bits .and .i64 x 255 = IntKind.i64.wrap ((((BitVec.ofInt 64 x) &&& (BitVec.ofInt 64 255)).toNat : Nat) : Int) := rfl
    rw [e, IntKind.wrap_i64]
    generalize ((BitVec.ofInt 64 x) &&& (BitVec.ofInt 64 255)).toNat = n at h
    omega
theorem byte_ev (l : List Int) (hl : l.length ≤ 1048576) (i h : Int) (h0 : 0 ≤ i) (h1 : i ≤ l.length) : ∃ (v : Nat) (i' h' : Int), spec_l01Byte.f l i h = some ((v : Int), i', h') ∧ v ≤ 255 ∧ 0 ≤ i' ∧ i' ≤ l.length := by
  unfold spec_l01Byte.f
  by_cases c : i < (l.length : Int)
  · obtain ⟨v, hv, e⟩ := mask255 (wrap64 ((Go.bits .and .i64 (Go.bits .xor .i64 ((wrap64 ((wrap64 (h * 6364136223846793005)) + 1442695040888963407)) / 8589934592) ((wrap64 ((wrap64 (h * 6364136223846793005)) + 1442695040888963407)) / 35184372088832)) 255) + (wrap64 (rd l i))))
    rw [if_pos c, if_pos h0, e, w64 (x := i + 1) (by omega) (by omega)]
    exact ⟨v, _, _, rfl, hv, by omega, by omega⟩
  · obtain ⟨v, hv, e⟩ := mask255 (Go.bits .xor .i64 ((wrap64 ((wrap64 (h * 6364136223846793005)) + 1442695040888963407)) / 8589934592) ((wrap64 ((wrap64 (h * 6364136223846793005)) + 1442695040888963407)) / 35184372088832))
    rw [if_neg c, e]
    exact ⟨v, _, _, rfl, hv, h0, h1⟩
theorem below_ev (l : List Int) (hl : l.length ≤ 1048576) (i h : Int) (h0 : 0 ≤ i) (h1 : i ≤ l.length) (n : Int) (n1 : 1 ≤ n) (n2 : n ≤ 256) : ∃ (v : Nat) (i' h' : Int), spec_l01Below.f l i h n = some ((v : Int), i', h') ∧ (v : Int) < n ∧ 0 ≤ i' ∧ i' ≤ l.length := by
  obtain ⟨v, i', h', e, hv, g0, g1⟩ := byte_ev l hl i h h0 h1
  unfold spec_l01Below.f
  rw [if_neg (by omega), if_pos (by omega), e]
  simp only [Option.bind_some]
  obtain ⟨m, rfl⟩ : ∃ m : Nat, n = m := ⟨n.toNat, by omega⟩
  rw [if_neg (by omega), Int.tmod_eq_emod_of_nonneg (by omega), ← Int.natCast_emod]
  exact ⟨v % m, i', h', rfl, by have := Nat.mod_lt v (show m > 0 by omega); omega, g0, g1⟩
theorem new_l (l : List Int) (hl : l.length ≤ 1048576) : ∀ (d i k : Nat) (h : Int), i + d = l.length → 4001 - i < k → i ≤ 4000 → ∃ h', spec_l01New.l0 k l h (i : Int) = some (l, 0, h') := by
  intro d
  induction d with
  | zero =>
    intro i k h hi hk _
    obtain ⟨k, rfl⟩ := ksucc (show 0 < k by omega)
    rw [spec_l01New.l0, if_neg (by omega)]
    exact ⟨_, rfl⟩
  | succ d ih =>
    intro i k h hi hk h4
    obtain ⟨k, rfl⟩ := ksucc (show 0 < k by omega)
    rw [spec_l01New.l0, if_pos (by omega)]
    by_cases c : (i : Int) < 4000
    · rw [if_pos c, if_pos (by omega), wnat (by omega)]
      exact ih (i + 1) k _ (by omega) (by omega) (by omega)
    · rw [if_neg c]
      exact ⟨_, rfl⟩
theorem new_ev (l : List Int) (hl : l.length ≤ 1048576) (k : Nat) (hk : 4001 < k) : ∃ h, spec_l01New.f k l = some (l, 0, h) := new_l l hl l.length 0 k _ (by omega) (by omega) (by omega)

def okC (a b c : Nat) : Bool := (a == 2 && b == 0 && c == 0) || (a == 8 && b == 0 && c == 0) || (a == 3) || (a == 6) || ((a == 1 || a == 4 || a == 5 || a == 7) && c == 0)
def dg (b : Nat) : UInt8 := UInt8.ofNat (48 + b)
def tx (a b c : Nat) : List UInt8 := (word (a : Int)).1 ++ (if (word (a : Int)).2 > 0 then [32, dg b] else []) ++ (if (word (a : Int)).2 > 1 then [32, dg c] else [])
def px (a b c : Nat) : List (List UInt8) := [(word (a : Int)).1] ++ (if (word (a : Int)).2 > 0 then [[dg b]] else []) ++ (if (word (a : Int)).2 > 1 then [[dg c]] else [])
def wide (t : ByteArray) : ByteArray := ((⟨#[32, 32]⟩ : ByteArray) ++ t) ++ (⟨#[32]⟩ : ByteArray)
def chk (a b c : Nat) : Bool := decide (impl_PartsOf.f 100 (ofL (tx a b c)) = some ((px a b c).map ofL, true)) && decide (impl_PartsOf.f 100 (wide (ofL (tx a b c))) = some ((px a b c).map ofL, true)) && (decide ((tx a b c).length ≤ 12) && !(tx a b c).contains 10)
set_option maxRecDepth 100000 in
theorem chkA : ∀ a < 9, ∀ b < 9, ∀ c < 9, okC a b c = true → chk a b c = true := by decide +kernel
theorem words_ne : ∀ i : Nat, i < 9 → ∀ a : Nat, a < 9 → i < a → 1 ≤ i → (word (i : Int)).1 ≠ (word (a : Int)).1 := by decide +kernel
theorem words_semi : ∀ a : Nat, a < 9 → 1 ≤ a → (word (a : Int)).1 ≠ [] ∧ (word (a : Int)).1.head? ≠ some 59 := by decide +kernel
def okN (a b c : Nat) : Bool := decide (1 ≤ a) && (decide (1 ≤ (word (a : Int)).2) || decide (b = 0)) && (decide (2 ≤ (word (a : Int)).2) || decide (c = 0))
theorem okC_n : ∀ a < 9, ∀ b < 9, ∀ c < 9, okC a b c = true → okN a b c = true := by decide +kernel
theorem okC_nums (a : Nat) (ha : a < 9) (b : Nat) (hb : b < 9) (c : Nat) (hc : c < 9) (ok : okC a b c = true) : 1 ≤ a ∧ ((word (a : Int)).2 < 1 → b = 0) ∧ ((word (a : Int)).2 < 2 → c = 0) := by
  have := okC_n a ha b hb c hc ok
  simp only [okN, Bool.and_eq_true, Bool.or_eq_true, decide_eq_true_eq] at this
  omega
theorem wordI (a : Int) (h : 1 ≤ a ∧ a ≤ 8) : impl_wordOf.f a = some (ofL (word a).1, (word a).2) := by
  obtain ⟨h1, h2⟩ := h
  have e : a = 1 ∨ a = 2 ∨ a = 3 ∨ a = 4 ∨ a = 5 ∨ a = 6 ∨ a = 7 ∨ a = 8 := by omega
  rcases e with rfl | rfl | rfl | rfl | rfl | rfl | rfl | rfl <;> rfl
theorem digit_itoa (b : Nat) (h : b < 9) : Lib.itoa (b : Int) = [dg b] := by rw [Lib.itoa_nonneg, Lib.decDigits_one (by omega)]; rfl
theorem digit_read (b : Nat) (h : b < 9) : impl_ReadDecimal.f (ofL [dg b]) = some ((b : Int), true) := by
  have e : [dg b] = Lib.decDigits b := (Lib.decDigits_one (show b < 10 by omega)).symm
  rw [implRD _ (by rw [ofL_size]; simp), ofL_list, e, numO_some b (by omega)]
theorem toL (l : List UInt8) : (ofL l).toList = l := by rw [ByteArray.toList_eq, ofL_list]
theorem sp1 : (⟨#[32]⟩ : ByteArray) = ofL [32] := rfl
theorem decI (b : Nat) (h : b < 9) : impl_Decimal.f (b : Int) = some (ofL [dg b]) := by
  unfold impl_Decimal.f
  rw [if_pos (by omega), digit_itoa b h]
  rfl
theorem text_ev (a b c : Nat) (ha : a < 9) (hb : b < 9) (hc : c < 9) (ok : okC a b c = true) (k : Nat) (hk : 0 < k) : impl_CmdText.f k (a : Int) (b : Int) (c : Int) = some (ofL (tx a b c), true) := by
  obtain ⟨k, rfl⟩ := ksucc hk
  obtain ⟨a1, b0, c0⟩ := okC_nums a ha b hb c hc ok
  obtain ⟨o1, o2, o3, o4⟩ := word_ok (a : Int)
  have j : impl_CmdText.j0 (k + 1) (ofL (word (a : Int)).1) (word (a : Int)).2 false (a : Int) (b : Int) (c : Int) = some (ofL (tx a b c), true) := by
    rw [impl_CmdText.j0, if_neg (by decide)]
    unfold tx
    by_cases h0 : (word (a : Int)).2 > 0
    · rw [if_pos h0, if_pos h0, decI b hb]
      simp only [Option.bind_some, sp1, ofL_app, ofL_size, List.length_append, List.length_cons, List.length_nil]
      rw [if_pos (by omega), if_pos (by omega)]
      by_cases h1 : (word (a : Int)).2 > 1
      · rw [if_pos h1, if_pos h1, decI c hc]
        simp only [Option.bind_some, ofL_app, ofL_size, List.length_append, List.length_cons, List.length_nil]
        rw [if_pos (by omega), if_pos (by omega)]
        rfl
      · rw [if_neg h1, if_neg h1]; simp
    · rw [if_neg h0, if_neg h0, if_neg (show ¬ (word (a : Int)).2 > 1 by omega), if_neg (show ¬ (word (a : Int)).2 > 1 by omega)]; simp
  unfold impl_CmdText.f
  rw [wordI (a : Int) (by omega)]
  simp only [Option.bind_some]
  rw [if_neg (by omega), if_neg (by omega), if_neg (by omega), if_neg (by omega), if_neg (by omega)]
  by_cases n1 : (word (a : Int)).2 < 1
  · have e := b0 n1
    have e2 := c0 (by omega)
    have e3 : ((c : Int) != 0) = false := by simp [e2]
    rw [if_pos n1, if_pos (by omega), if_pos (by omega), e3]; exact j
  · rw [if_neg n1]
    by_cases n2 : (word (a : Int)).2 < 2
    · have e2 := c0 n2
      have e3 : ((c : Int) != 0) = false := by simp [e2]
      rw [if_pos n2, e3]; exact j
    · rw [if_neg n2]; exact j
theorem px_len (a b c : Nat) : ((px a b c).length : Int) = (word (a : Int)).2 + 1 := by
  obtain ⟨o1, o2, o3, o4⟩ := word_ok (a : Int)
  unfold px
  have e : (word (a : Int)).2 = 0 ∨ (word (a : Int)).2 = 1 ∨ (word (a : Int)).2 = 2 := by omega
  rcases e with e | e | e <;> simp [e]
theorem px_cons (a b c : Nat) : ∃ ps, (px a b c).map ofL = ofL (word (a : Int)).1 :: ps := ⟨_, rfl⟩
theorem nums_px (a b c : Nat) (hb : b < 9) (hc : c < 9) (b0 : (word (a : Int)).2 < 1 → b = 0) (c0 : (word (a : Int)).2 < 2 → c = 0) (k : Nat) (hk : 3 < k) : impl_ReadCmd.nums k (((px a b c).map ofL).drop 1) 0 0 0 = some (some ((b : Int), (c : Int))) := by
  obtain ⟨k, rfl⟩ : ∃ m, k = m + 3 := ⟨k - 3, by omega⟩
  obtain ⟨o1, o2, o3, o4⟩ := word_ok (a : Int)
  have e : (word (a : Int)).2 = 0 ∨ (word (a : Int)).2 = 1 ∨ (word (a : Int)).2 = 2 := by omega
  unfold px
  rcases e with e | e | e
  · have e1 := b0 (by omega)
    have e2 := c0 (by omega)
    subst e1; subst e2
    simp [e, impl_ReadCmd.nums]
  · have e2 := c0 (by omega)
    subst e2
    simp [e, impl_ReadCmd.nums, rdOf, digit_read b hb]
  · simp [e, impl_ReadCmd.nums, rdOf, digit_read b hb, digit_read c hc]
theorem read_l (a b c : Nat) (ha : a < 9) (hb : b < 9) (hc : c < 9) (ok : okC a b c = true) : ∀ (d i k : Nat), i + d = a → 1 ≤ i → 2 * d + 20 < k →
    impl_ReadCmd.l0 k ((px a b c).map ofL) (i : Int) = some ((a : Int), (b : Int), (c : Int), true) := by
  obtain ⟨a1, b0, c0⟩ := okC_nums a ha b hb c hc ok
  obtain ⟨o1, o2, o3, o4⟩ := word_ok (a : Int)
  have hpl := px_len a b c
  have hlen : (((px a b c).map ofL).length : Int) = (word (a : Int)).2 + 1 := by simpa using hpl
  have hrd : (rdOf ByteArray.empty ((px a b c).map ofL) 0).toList = (word (a : Int)).1 := by
    have : rdOf ByteArray.empty ((px a b c).map ofL) 0 = ofL (word (a : Int)).1 := by simp [rdOf, px]
    rw [this, toL]
  intro d
  induction d with
  | zero =>
    intro i k hi h1 hk
    obtain ⟨k, rfl⟩ := ksucc (show 0 < k by omega)
    obtain ⟨k, rfl⟩ := ksucc (show 0 < k by omega)
    have e : i = a := by omega
    subst e
    rw [impl_ReadCmd.l0, if_pos (by omega), wordI _ (by omega)]
    simp only [Option.bind_some, toL, hrd]
    have e2 : ((((px i b c).map ofL).length : Int) != wrap64 ((word (i : Int)).2 + 1)) = false := by rw [w64 (by omega) (by omega), hlen]; simp
    simp only [if_true]
    rw [if_pos (by omega), e2, impl_ReadCmd.j2, if_neg (by decide), if_pos (by omega), nums_px i b c hb hc b0 c0 k (by omega)]
    rfl
  | succ d ih =>
    intro i k hi h1 hk
    obtain ⟨k, rfl⟩ := ksucc (show 0 < k by omega)
    obtain ⟨k, rfl⟩ := ksucc (show 0 < k by omega)
    rw [impl_ReadCmd.l0, if_pos (by omega), wordI _ (by omega)]
    simp only [Option.bind_some, toL, hrd]
    rw [if_pos (by omega), if_neg (words_ne i (by omega) a ha (by omega) h1), impl_ReadCmd.j2, if_pos rfl, wnat (by omega)]
    exact ih (i + 1) k (by omega) (by omega) (by omega)
theorem read_px (a b c : Nat) (ha : a < 9) (hb : b < 9) (hc : c < 9) (ok : okC a b c = true) (t : ByteArray) (ht : impl_PartsOf.f 100 t = some ((px a b c).map ofL, true)) (k : Nat) (hk : 150 < k) :
    impl_ReadCmd.f k t = some ((a : Int), (b : Int), (c : Int), true) := by
  obtain ⟨a1, _, _⟩ := okC_nums a ha b hb c hc ok
  have h := at_rounds (g := fun k => impl_PartsOf.f k t) (fun k => impl_PartsOf.mono _ k) (show 100 ≤ k by omega) ht
  have h' : impl_PartsOf.f k t = some ((px a b c).map ofL, true) := h
  unfold impl_ReadCmd.f
  rw [h']
  simp only [Option.bind_some, if_true]
  obtain ⟨o1, o2, o3, o4⟩ := word_ok (a : Int)
  have hpl := px_len a b c
  have hlen : (((px a b c).map ofL).length : Int) = (word (a : Int)).2 + 1 := by simpa using hpl
  have e : ((((px a b c).map ofL).length : Int) == 0) = false := by simp only [beq_eq_false_iff_ne]; omega
  obtain ⟨k, rfl⟩ := ksucc (show 0 < k by omega)
  rw [e, impl_ReadCmd.j0, if_neg (by decide)]
  exact read_l a b c ha hb hc ok (a - 1) 1 k (by omega) (by omega) (by omega)
/-- A drawn command. -/
def drawn (x : S35) : Prop := ∃ a b c : Nat, x = ⟨(a : Int), (b : Int), (c : Int)⟩ ∧ a < 9 ∧ b < 9 ∧ c < 9 ∧ okC a b c = true
def txS (x : S35) : List UInt8 := tx x.f0.toNat x.f1.toNat x.f2.toNat
theorem drawn_all {x : S35} (h : drawn x) :
    (∀ k, 0 < k → impl_CmdText.f k x.f0 x.f1 x.f2 = some (ofL (txS x), true)) ∧ (∀ k, 150 < k → impl_ReadCmd.f k (wide (ofL (txS x))) = some (x.f0, x.f1, x.f2, true)) ∧ (∀ k, 150 < k → impl_ReadCmd.f k (ofL (txS x)) = some (x.f0, x.f1, x.f2, true)) ∧
    (∃ p ps, (∀ k, 100 ≤ k → impl_PartsOf.f k (ofL (txS x)) = some (p :: ps, true)) ∧ 0 < p.size ∧ bt p 0 ≠ 59) ∧ (txS x).length ≤ 12 ∧ 10 ∉ txS x := by
  obtain ⟨a, b, c, rfl, ha, hb, hc, ok⟩ := h
  have e : txS ⟨(a : Int), (b : Int), (c : Int)⟩ = tx a b c := rfl
  rw [e]
  have hk := chkA a ha b hb c hc ok
  simp only [chk, Bool.and_eq_true, decide_eq_true_eq, Bool.not_eq_true', List.contains_eq_mem, decide_eq_false_iff_not] at hk
  obtain ⟨⟨p1, p2⟩, p3, p4⟩ := hk
  obtain ⟨a1, _, _⟩ := okC_nums a ha b hb c hc ok
  refine ⟨fun k hk => text_ev a b c ha hb hc ok k hk, fun k hk => read_px a b c ha hb hc ok _ p2 k hk, fun k hk => read_px a b c ha hb hc ok _ p1 k hk, ⟨ofL (word (a : Int)).1, (px_cons a b c).choose, fun k hk => ?_, ?_, ?_⟩, p3, p4⟩
  · have h := at_rounds (g := fun k => impl_PartsOf.f k (ofL (tx a b c))) (fun k => impl_PartsOf.mono _ k) hk p1
    rw [(px_cons a b c).choose_spec] at h
    exact h
  · obtain ⟨w1, w2⟩ := words_semi a ha a1
    rw [ofL_size]
    exact List.length_pos_iff.2 w1
  · obtain ⟨w1, w2⟩ := words_semi a ha a1
    match hw : (word (a : Int)).1, w1, w2 with
    | q :: r, _, w2 =>
      intro e5
      apply w2
      have h2 := bt_get (ofL (q :: r)) 0 (by rw [ofL_size]; simp)
      have h3 : bt (ofL (q :: r)) 0 = (q.toNat : Int) := by simpa [ofL] using h2
      rw [h3] at e5
      have : q = 59 := by
        apply UInt8.toNat_inj.1
        show q.toNat = 59
        omega
      rw [this]; rfl
theorem cmd_ev (l : List Int) (hl : l.length ≤ 1048576) (i h : Int) (h0 : 0 ≤ i) (h1 : i ≤ l.length) : ∃ (a b c : Int) (i' h' : Int), spec_l30Cmd.f l i h = some (a, b, c, i', h') ∧ drawn ⟨a, b, c⟩ ∧ 0 ≤ i' ∧ i' ≤ l.length := by
  obtain ⟨v, i1, j1, e1, hv, g0, g1⟩ := below_ev l hl i h h0 h1 6 (by omega) (by omega)
  unfold spec_l30Cmd.f
  rw [e1]
  simp only [Option.bind_some]
  have two : ∃ (b c : Nat) (i3 j3 : Int), (b : Int) < 9 ∧ (c : Int) < 9 ∧ 0 ≤ i3 ∧ i3 ≤ l.length ∧ ∀ a : Int, ((spec_l01Below.f l i1 j1 9).bind fun x => (spec_l01Below.f l x.2.1 x.2.2 9).bind fun y => some (a, x.1, y.1, y.2.1, y.2.2)) = some (a, (b : Int), (c : Int), i3, j3) := by
    obtain ⟨b, i2, j2, e2, hb, k0, k1⟩ := below_ev l hl i1 j1 g0 g1 9 (by omega) (by omega)
    obtain ⟨c, i3, j3, e3, hc, m0, m1⟩ := below_ev l hl i2 j2 k0 k1 9 (by omega) (by omega)
    refine ⟨b, c, i3, j3, hb, hc, m0, m1, fun a => ?_⟩
    rw [e2]
    simp only [Option.bind_some]
    rw [e3]
    rfl
  by_cases q0 : (v : Int) = 0
  · rw [if_pos q0]
    exact ⟨_, _, _, _, _, rfl, ⟨2, 0, 0, rfl, by omega, by omega, by omega, rfl⟩, g0, g1⟩
  rw [if_neg q0]
  by_cases q1 : (v : Int) = 1
  · rw [if_pos q1]
    obtain ⟨b, c, i3, j3, hb, hc, m0, m1, e⟩ := two
    exact ⟨_, _, _, _, _, e 3, ⟨3, b, c, rfl, by omega, by omega, by omega, rfl⟩, m0, m1⟩
  rw [if_neg q1]
  by_cases q2 : (v : Int) = 2
  · rw [if_pos q2]
    obtain ⟨b, c, i3, j3, hb, hc, m0, m1, e⟩ := two
    exact ⟨_, _, _, _, _, e 6, ⟨6, b, c, rfl, by omega, by omega, by omega, rfl⟩, m0, m1⟩
  rw [if_neg q2]
  by_cases q3 : (v : Int) = 3
  · rw [if_pos q3]
    exact ⟨_, _, _, _, _, rfl, ⟨8, 0, 0, rfl, by omega, by omega, by omega, rfl⟩, g0, g1⟩
  rw [if_neg q3]
  obtain ⟨u, i2, j2, e2, hu, k0, k1⟩ := below_ev l hl i1 j1 g0 g1 4 (by omega) (by omega)
  obtain ⟨b, i3, j3, e3, hb, m0, m1⟩ := below_ev l hl i2 j2 k0 k1 6 (by omega) (by omega)
  have ep : spec_l01PickInt.f l i1 j1 [1, 4, 5, 7] = some (rd [1, 4, 5, 7] (u : Int), i2, j2) := by
    unfold spec_l01PickInt.f
    rw [show (([1, 4, 5, 7] : List Int).length : Int) = 4 from rfl, e2]
    simp only [Option.bind_some]
    rw [if_pos (by omega), if_pos (by omega)]
  rw [ep]
  simp only [Option.bind_some]
  rw [e3]
  simp only [Option.bind_some]
  refine ⟨_, _, _, _, _, rfl, ?_, m0, m1⟩
  have hu4 : u = 0 ∨ u = 1 ∨ u = 2 ∨ u = 3 := by omega
  rcases hu4 with rfl | rfl | rfl | rfl
  · exact ⟨1, b, 0, rfl, by omega, by omega, by omega, rfl⟩
  · exact ⟨4, b, 0, rfl, by omega, by omega, by omega, rfl⟩
  · exact ⟨5, b, 0, rfl, by omega, by omega, by omega, rfl⟩
  · exact ⟨7, b, 0, rfl, by omega, by omega, by omega, rfl⟩
theorem written_l (l : List Int) (hl : l.length ≤ 1048576) : ∀ (d m k : Nat) (out : List S35) (i h : Int), m + d = 9 → out.length = m → (∀ x ∈ out, drawn x) → 0 ≤ i → i ≤ l.length → d < k →
    ∃ r, spec_DrawWritten.l0 k out (m : Int) l i h = some r ∧ r.length ≤ 9 ∧ ∀ x ∈ r, drawn x := by
  intro d
  induction d with
  | zero =>
    intro m k out i h hm ho hd h0 h1 hk
    obtain ⟨k, rfl⟩ := ksucc hk
    obtain ⟨v, i1, j1, e1, hv, g0, g1⟩ := below_ev l hl i h h0 h1 9 (by omega) (by omega)
    rw [spec_DrawWritten.l0, e1, Option.bind_some]
    dsimp only
    rw [w64 (by omega) (by omega), if_neg (by omega)]
    exact ⟨out, rfl, by omega, hd⟩
  | succ d ih =>
    intro m k out i h hm ho hd h0 h1 hk
    obtain ⟨k, rfl⟩ := ksucc hk
    obtain ⟨v, i1, j1, e1, hv, g0, g1⟩ := below_ev l hl i h h0 h1 9 (by omega) (by omega)
    rw [spec_DrawWritten.l0, e1, Option.bind_some]
    dsimp only
    rw [w64 (by omega) (by omega)]
    by_cases c : (m : Int) < 1 + (v : Int)
    · rw [if_pos c]
      obtain ⟨a, b, c, i2, j2, e2, hx, k0, k1⟩ := cmd_ev l hl i1 j1 g0 g1
      rw [e2, Option.bind_some]
      dsimp only
      rw [if_pos (by omega), wnat (by omega)]
      refine ih (m + 1) k _ i2 j2 (by omega) (by simp [ho]) ?_ k0 k1 (by omega)
      intro x hm
      rcases List.mem_append.1 hm with h | h
      · exact hd x h
      · rw [List.mem_singleton.1 h]; exact hx
    · rw [if_neg c]
      exact ⟨out, rfl, by omega, hd⟩
theorem written_ev (l : List Int) (hl : l.length ≤ 1048576) (k : Nat) (hk : 4001 < k) : ∃ r, spec_DrawWritten.f k l = some r ∧ r.length ≤ 9 ∧ ∀ x ∈ r, drawn x := by
  obtain ⟨h, e⟩ := new_ev l hl k hk
  unfold spec_DrawWritten.f
  rw [e]
  simp only [Option.bind_some]
  exact written_l l hl 9 0 k [] 0 h (by omega) rfl (by simp) (by omega) (by omega) (by omega)
/-! the script -/
def h1L : List UInt8 := [59, 32, 97, 32, 115, 99, 114, 105, 112, 116]
def body (cs : List S35) : List UInt8 := (cs.map fun x => txS x ++ [10]).flatten
theorem cutA_line (t rest : List UInt8) (h : (10 : UInt8) ∉ t) : ∀ cur, cutA 10 cur (t ++ 10 :: rest) = (cur ++ t) :: cutA 10 [] rest := by
  induction t with
  | nil => intro cur; simp [cutA]
  | cons b t ih =>
    intro cur
    have hb : b ≠ 10 := fun e => h (by simp [e])
    rw [List.cons_append, cutA, if_neg hb, ih (fun e => h (by simp [e]))]
    simp
theorem cutA_last (t : List UInt8) (h : (10 : UInt8) ∉ t) : ∀ cur, cutA 10 cur t = [cur ++ t] := by
  induction t with
  | nil => intro cur; simp [cutA]
  | cons b t ih =>
    intro cur
    have hb : b ≠ 10 := fun e => h (by simp [e])
    rw [cutA, if_neg hb, ih (fun e => h (by simp [e]))]
    simp
theorem cut_body (tail : List UInt8) (ht : (10 : UInt8) ∉ tail) : ∀ (cs : List S35), (∀ x ∈ cs, drawn x) → cutA 10 [] (body cs ++ tail) = cs.map txS ++ [tail]
  | [], _ => by simp [body, cutA_last tail ht]
  | x :: t, h => by
    obtain ⟨_, _, _, _, _, h10⟩ := drawn_all (h x (by simp))
    have e : body (x :: t) ++ tail = txS x ++ 10 :: (body t ++ tail) := by simp [body]
    rw [e, cutA_line _ _ h10, cut_body tail ht t (fun y hy => h y (by simp [hy]))]
    simp
def scriptL (cs : List S35) (tail : List UInt8) : List UInt8 := h1L ++ 10 :: ([] ++ 10 :: (body cs ++ tail))
def ls (cs : List S35) (tail : List UInt8) : List ByteArray := [ofL h1L, ofL []] ++ cs.map (fun x => ofL (txS x)) ++ [ofL tail]
theorem lines_script (cs : List S35) (tail : List UInt8) (ht : (10 : UInt8) ∉ tail) (h : ∀ x ∈ cs, drawn x) : linesOf (ofL (scriptL cs tail)) = ls cs tail := by
  unfold linesOf scriptL
  rw [ofL_list, cutA_line h1L _ (by decide), cutA_line [] _ (by simp), cut_body tail ht cs h]
  simp [ls]
theorem rd_at (A B : List ByteArray) (b : ByteArray) : rdOf ByteArray.empty (A ++ b :: B) (A.length : Int) = b := by simp [rdOf, List.getD]
theorem semi_parts : impl_PartsOf.f 100 (ofL h1L) = some ([ofL [59], ofL [97], ofL [115, 99, 114, 105, 112, 116]], true) := by decide +kernel
theorem none_parts : impl_PartsOf.f 100 (ofL []) = some ([], true) := by decide +kernel
def tockL : List UInt8 := [116, 111, 99, 107]
theorem tock_parts : impl_PartsOf.f 100 (ofL tockL) = some ([ofL tockL], true) := by decide +kernel
theorem tock_read : impl_ReadCmd.f 150 (ofL tockL) = some (0, 0, 0, false) := by decide +kernel
theorem parts_at {t : ByteArray} {r : List ByteArray × Bool} (h : impl_PartsOf.f 100 t = some r) (k : Nat) (hk : 100 ≤ k) : impl_PartsOf.f k t = some r :=
  at_rounds (g := fun k => impl_PartsOf.f k t) (fun k => impl_PartsOf.mono _ k) hk h
theorem skip_step (L : List ByteArray) (hL : L.length ≤ 1000) (out : List S35) (A B : List ByteArray) (b : ByteArray) (e : L = A ++ b :: B) (hb : impl_PartsOf.f 100 b = some ([], true) ∨ ∃ p ps, impl_PartsOf.f 100 b = some (p :: ps, true) ∧ 0 < p.size ∧ bt p 0 = 59) (k : Nat) (hk : 200 < k) (R : List S35 × Int × Bool)
    (h : ∀ q, k ≤ q + 2 → impl_ReadScript.l0 q L out L (L.length : Int) ((A.length + 1 : Nat) : Int) = some R) : impl_ReadScript.l0 k L out L (L.length : Int) (A.length : Int) = some R := by
  obtain ⟨k, rfl⟩ := ksucc (show 0 < k by omega)
  obtain ⟨k, rfl⟩ := ksucc (show 0 < k by omega)
  have hl : A.length < L.length := by rw [e]; simp
  have er : rdOf ByteArray.empty L (A.length : Int) = b := by rw [e]; exact rd_at A B b
  have j : impl_ReadScript.j1 (k + 1) L out (A.length : Int) b L (L.length : Int) (A.length : Int) true = some R := by
    rw [impl_ReadScript.j1, if_pos rfl, wnat (by omega)]
    exact h k (by omega)
  rw [impl_ReadScript.l0, if_pos (by omega), if_pos (by omega), if_pos (by omega), er]
  rcases hb with hb | ⟨p, ps, hb, h1, h2⟩
  · rw [parts_at hb (k + 1) (by omega)]
    simp only [Option.bind_some, if_true]
    rw [if_pos (by simp)]
    exact j
  · rw [parts_at hb (k + 1) (by omega)]
    simp only [Option.bind_some, if_true]
    have e0 : rdOf ByteArray.empty (p :: ps) 0 = p := rfl
    rw [if_neg (by simp only [List.length_cons]; omega), if_pos (by simp only [List.length_cons]; omega), e0, if_pos (by omega), h2]
    exact j
theorem cmd_step (L : List ByteArray) (hL : L.length ≤ 1000) (out : List S35) (ho : out.length ≤ 1000) (A B : List ByteArray) (x : S35) (hx : drawn x) (e : L = A ++ ofL (txS x) :: B) (k : Nat) (hk : 200 < k) (R : List S35 × Int × Bool)
    (h : ∀ q, k ≤ q + 2 → impl_ReadScript.l0 q L (out ++ [x]) L (L.length : Int) ((A.length + 1 : Nat) : Int) = some R) : impl_ReadScript.l0 k L out L (L.length : Int) (A.length : Int) = some R := by
  obtain ⟨k, rfl⟩ := ksucc (show 0 < k by omega)
  obtain ⟨k, rfl⟩ := ksucc (show 0 < k by omega)
  obtain ⟨_, _, d3, ⟨p, ps, d4, d5, d6⟩, _, _⟩ := drawn_all hx
  have hl : A.length < L.length := by rw [e]; simp
  have er : rdOf ByteArray.empty L (A.length : Int) = ofL (txS x) := by rw [e]; exact rd_at A B _
  have e0 : rdOf ByteArray.empty (p :: ps) 0 = p := rfl
  have e59 : (bt p 0 == 59) = false := by simpa using d6
  rw [impl_ReadScript.l0, if_pos (by omega), if_pos (by omega), if_pos (by omega), er, d4 (k + 1) (by omega)]
  simp only [Option.bind_some, if_true]
  rw [if_neg (by simp only [List.length_cons]; omega), if_pos (by simp only [List.length_cons]; omega), e0, if_pos (by omega), e59, impl_ReadScript.j1, if_neg (by decide), d3 k (by omega)]
  simp only [Option.bind_some, if_true]
  rw [if_pos (by omega), wnat (by omega)]
  exact h k (by omega)
theorem run_l (L : List ByteArray) (hL : L.length ≤ 1000) (tail : ByteArray) (full : List S35) (hf : full.length ≤ 1000) (R : List S35 × Int × Bool)
    (hfin : ∀ A, L = A ++ [tail] → ∀ k, 210 < k → impl_ReadScript.l0 k L full L (L.length : Int) (A.length : Int) = some R) : ∀ (suf : List S35) (A : List ByteArray) (out : List S35) (k : Nat),
    (∀ x ∈ suf, drawn x) → L = A ++ suf.map (fun x => ofL (txS x)) ++ [tail] → full = out ++ suf → 2 * suf.length + 220 < k → impl_ReadScript.l0 k L out L (L.length : Int) (A.length : Int) = some R
  | [], A, out, k, _, e, ef, hk => by
    have e2 : full = out := by simpa using ef
    rw [← e2]
    exact hfin A (by simpa using e) k (by omega)
  | x :: t, A, out, k, hd, e, ef, hk => by
    have hlo : out.length ≤ 1000 := by
      have := congrArg List.length ef
      simp at this
      omega
    refine cmd_step L hL out hlo A (t.map (fun x => ofL (txS x)) ++ [tail]) x (hd x (by simp)) (by rw [e]; simp) k (by omega) R ?_
    intro q hq
    have := run_l L hL tail full hf R hfin t (A ++ [ofL (txS x)]) (out ++ [x]) q (fun y hy => hd y (by simp [hy])) (by rw [e]; simp) (by rw [ef]; simp) (by simp at hk; omega)
    simpa using this
theorem ls_len (cs : List S35) (tail : List UInt8) : (ls cs tail).length = cs.length + 3 := by simp [ls]
theorem script_run (cs : List S35) (tail : List UInt8) (hc : cs.length ≤ 9) (hd : ∀ x ∈ cs, drawn x) (R : List S35 × Int × Bool) (k : Nat) (hk : 1000 < k)
    (hfin : ∀ A, ls cs tail = A ++ [ofL tail] → ∀ k, 210 < k → impl_ReadScript.l0 k (ls cs tail) cs (ls cs tail) ((ls cs tail).length : Int) (A.length : Int) = some R) : impl_ReadScript.l0 k (ls cs tail) [] (ls cs tail) ((ls cs tail).length : Int) 0 = some R := by
  have hl := ls_len cs tail
  refine skip_step (ls cs tail) (by omega) [] [] ([ofL []] ++ cs.map (fun x => ofL (txS x)) ++ [ofL tail]) (ofL h1L) (by simp [ls]) (.inr ⟨_, _, semi_parts, by decide, by decide⟩) k (by omega) R ?_
  intro q hq
  refine skip_step (ls cs tail) (by omega) [] [ofL h1L] (cs.map (fun x => ofL (txS x)) ++ [ofL tail]) (ofL []) (by simp [ls]) (.inl none_parts) q (by omega) R ?_
  intro q2 hq2
  exact run_l (ls cs tail) (by omega) (ofL tail) cs (by omega) R hfin cs [ofL h1L, ofL []] [] q2 hd (by simp [ls]) (by simp) (by omega)
theorem body_len : ∀ (cs : List S35), (∀ x ∈ cs, drawn x) → (body cs).length ≤ 13 * cs.length
  | [], _ => by simp [body]
  | x :: t, h => by
    obtain ⟨_, _, _, _, h5, _⟩ := drawn_all (h x (by simp))
    have := body_len t (fun y hy => h y (by simp [hy]))
    have e : body (x :: t) = txS x ++ 10 :: body t := by simp [body]
    rw [e]
    simp
    omega
theorem script_f (cs : List S35) (tail : List UInt8) (htl : tail.length ≤ 10) (ht : (10 : UInt8) ∉ tail) (hc : cs.length ≤ 9) (hd : ∀ x ∈ cs, drawn x) (k : Nat) :
    impl_ReadScript.f k (ofL (scriptL cs tail)) = impl_ReadScript.l0 k (ls cs tail) [] (ls cs tail) ((ls cs tail).length : Int) 0 := by
  have hb := body_len cs hd
  have hs : (ofL (scriptL cs tail)).size ≤ 200 := by
    rw [ofL_size]
    simp [scriptL, h1L]
    omega
  unfold impl_ReadScript.f
  rw [if_neg (by omega), implLines _ (by omega), lines_script cs tail ht hd]
  rfl
theorem script_ok (cs : List S35) (hc : cs.length ≤ 9) (hd : ∀ x ∈ cs, drawn x) (k : Nat) (hk : 1000 < k) : impl_ReadScript.f k (ofL (scriptL cs [])) = some (cs, ((cs.length + 3 : Nat) : Int), true) := by
  rw [script_f cs [] (by simp) (by simp) hc hd]
  have hl := ls_len cs []
  refine script_run cs [] hc hd _ k hk ?_
  intro A eA k hk
  have hA : A.length + 1 = (ls cs []).length := by rw [eA]; simp
  refine skip_step (ls cs []) (by omega) cs A [] (ofL []) eA (.inl none_parts) k (by omega) _ ?_
  intro q hq
  obtain ⟨q, rfl⟩ := ksucc (show 0 < q by omega)
  rw [impl_ReadScript.l0, if_neg (by omega), if_neg (by omega), hl]
theorem script_bad (cs : List S35) (hc : cs.length ≤ 9) (hd : ∀ x ∈ cs, drawn x) (k : Nat) (hk : 1000 < k) : impl_ReadScript.f k (ofL (scriptL cs tockL)) = some ([], ((cs.length + 3 : Nat) : Int), false) := by
  rw [script_f cs tockL (by decide) (by decide) hc hd]
  have hl := ls_len cs tockL
  refine script_run cs tockL hc hd _ k hk ?_
  intro A eA k hk
  have hA : A.length + 1 = (ls cs tockL).length := by rw [eA]; simp
  obtain ⟨k, rfl⟩ := ksucc (show 0 < k by omega)
  obtain ⟨k, rfl⟩ := ksucc (show 0 < k by omega)
  have er : rdOf ByteArray.empty (ls cs tockL) (A.length : Int) = ofL tockL := by rw [eA]; exact rd_at A [] _
  have e0 : rdOf ByteArray.empty [ofL tockL] 0 = ofL tockL := rfl
  have e59 : (bt (ofL tockL) 0 == 59) = false := by decide
  have hr : impl_ReadCmd.f k (ofL tockL) = some (0, 0, 0, false) := at_rounds (g := fun k => impl_ReadCmd.f k (ofL tockL)) (fun k => impl_ReadCmd.mono _ k) (show 150 ≤ k by omega) tock_read
  rw [impl_ReadScript.l0, if_pos (by omega), if_pos (by omega), if_pos (by omega), er, parts_at tock_parts (k + 1) (by omega)]
  simp only [Option.bind_some, if_true]
  rw [if_neg (by decide), if_pos (by decide), e0, if_pos (by decide), e59, impl_ReadScript.j1, if_neg (by decide), hr]
  simp only [Option.bind_some, Bool.false_eq_true, if_false]
  rw [wnat (by omega), show A.length + 1 = cs.length + 3 by omega]
theorem same_l (xs : List S35) (hb : xs.length ≤ 1048576) : ∀ (d i k : Nat), i + d = xs.length → d < k → laws_sameCmds.l0 k xs xs (i : Int) = some true := by
  intro d
  induction d with
  | zero =>
    intro i k h hk
    obtain ⟨k, rfl⟩ := ksucc hk
    rw [laws_sameCmds.l0, if_neg (by omega)]
  | succ d ih =>
    intro i k h hk
    obtain ⟨k, rfl⟩ := ksucc hk
    rw [laws_sameCmds.l0, if_pos (by omega), if_pos (by omega), if_pos (by omega), if_neg (by simp), wnat (by omega)]
    exact ih (i + 1) k (by omega) (by omega)
theorem same_ev (xs : List S35) (hb : xs.length ≤ 1048576) (k : Nat) (hk : xs.length < k) : laws_sameCmds.f k xs xs = some true := by
  unfold laws_sameCmds.f
  rw [if_pos rfl]
  exact same_l xs hb xs.length 0 k (by omega) hk
theorem body_snoc (xs : List S35) (x : S35) : body (xs ++ [x]) = (body xs ++ txS x) ++ [10] := by simp [body]
theorem nl1 : (⟨#[10]⟩ : ByteArray) = ofL [10] := rfl
theorem tock1 : (⟨#[116, 111, 99, 107]⟩ : ByteArray) = ofL tockL := rfl
theorem law_l (cs : List S35) (hc : cs.length ≤ 9) (hd : ∀ x ∈ cs, drawn x) : ∀ (d m k : Nat), m + d = cs.length → d + 2000 < k →
    laws_FnCmds.l0 k cs (ofL (h1L ++ 10 :: 10 :: body (cs.take m))) (m : Int) = some true := by
  intro d
  have hsz : ∀ m, (ofL (h1L ++ 10 :: 10 :: body (cs.take m))).size ≤ 200 := by
    intro m
    have := body_len (cs.take m) (fun x hx => hd x (List.mem_of_mem_take hx))
    rw [ofL_size]
    simp [h1L] at this ⊢
    omega
  induction d with
  | zero =>
    intro m k hm hk
    obtain ⟨k, rfl⟩ := ksucc (show 0 < k by omega)
    have hs := hsz m
    have e : cs.take m = cs := List.take_of_length_le (by omega)
    rw [e] at hs ⊢
    have e1 : ofL (h1L ++ 10 :: 10 :: body cs) = ofL (scriptL cs []) := by simp [scriptL]
    have e2 : ofL (h1L ++ 10 :: 10 :: body cs) ++ (⟨#[116, 111, 99, 107]⟩ : ByteArray) = ofL (scriptL cs tockL) := by rw [tock1, ofL_app]; simp [scriptL]
    rw [laws_FnCmds.l0, if_neg (by omega), e2, e1, script_ok cs hc hd k (by omega), Option.bind_some]
    rw [e1] at hs
    dsimp only
    rw [if_pos (by omega), script_bad cs hc hd k (by omega), Option.bind_some]
    dsimp only
    rw [if_pos rfl]
    have e3 : wrap64 ((cs.length : Int) + 3) = ((cs.length + 3 : Nat) : Int) := by rw [w64 (by omega) (by omega)]; omega
    rw [e3, if_pos rfl, same_ev cs (by omega) k (by omega), Option.bind_some, if_pos rfl, if_neg (by decide), beq_self_eq_true]
  | succ d ih =>
    intro m k hm hk
    obtain ⟨k, rfl⟩ := ksucc (show 0 < k by omega)
    have hl : m < cs.length := by omega
    have hs := hsz m
    have er : rd_T35 cs (m : Int) = cs[m] := by simp [rd_T35, List.getD, hl]
    obtain ⟨d1, d2, _, _, d5, _⟩ := drawn_all (hd _ (List.getElem_mem hl))
    have hz : (ofL (txS cs[m])).size ≤ 12 := by rw [ofL_size]; exact d5
    have hw := d2 k (by omega)
    unfold wide at hw
    have s2 : (⟨#[32, 32]⟩ : ByteArray).size = 2 := rfl
    have hs2 : (ofL (h1L ++ 10 :: 10 :: body (cs.take m)) ++ ofL (txS cs[m])).size ≤ 300 := by rw [ByteArray.size_append]; omega
    rw [laws_FnCmds.l0, if_pos (by omega), if_pos (by omega), er, d1 k (by omega), Option.bind_some]
    dsimp only
    rw [if_pos (by omega), if_pos (by rw [ByteArray.size_append]; omega), hw, Option.bind_some]
    dsimp only
    rw [if_pos rfl, if_pos rfl, if_neg (by simp), if_pos (by omega), if_pos (by omega), wnat (by omega), nl1, ofL_app, ofL_app]
    have := ih (m + 1) k (by omega) (by omega)
    rw [List.take_succ_eq_append_getElem hl, body_snoc] at this
    simpa using this
theorem FnCmds : OpFnCmds.Pure := by
  intro l _
  obtain ⟨K, hK⟩ : ∃ K, 5000 < K := ⟨5001, by omega⟩
  refine ⟨K, ?_⟩
  unfold laws_FnCmds.f laws_big.f
  simp only [Option.bind_some]
  by_cases h : (l.length : Int) > 1048576
  · rw [if_pos (by simpa using h)]
  · rw [if_neg (by simpa using h)]
    obtain ⟨cs, e, h9, hd⟩ := written_ev l (by omega) K (by omega)
    rw [e]
    simp only [Option.bind_some]
    exact law_l cs h9 hd cs.length 0 K (by omega) (by omega)

end Go.Proofs.YtaddjeoncbmohaaDoor.Pure
