/- The law FnExactReadScript over numbers and lists alone: it answers true for every input; no condition beside the bounds of the kinds. -/
import Derived.Test.YtaddjeoncbmohaaDoorMFnExactReadScriptx
import Derived.Test.YtaddjeoncbmohaaDoorOpFnExactReadScript
import Derived.Lib.ItoaLen
import Derived.Lib.AtoiTie
import Derived.Lib.SplitLaws
namespace Go.Proofs.YtaddjeoncbmohaaDoor.Pure
open Go.RowKit Go.Proofs.YtaddjeoncbmohaaDoor.MFnExactReadScript Go.Proofs.YtaddjeoncbmohaaDoorW.PrintWords Go.Proofs.YtaddjeoncbmohaaDoorW.PrintLast Go.Proofs.YtaddjeoncbmohaaDoor
set_option linter.unusedVariables false
set_option linter.unusedSimpArgs false

theorem w64 {x : Int} (h1 : -9223372036854775808 ≤ x) (h2 : x ≤ 9223372036854775807) : wrap64 x = x := by unfold wrap64; omega
theorem wnat {i : Nat} (h : i < 4611686018427387904) : wrap64 ((i : Int) + 1) = ((i + 1 : Nat) : Int) := by unfold wrap64; omega
theorem ksucc {k d : Nat} (h : d < k) : ∃ m, k = m + 1 := ⟨k - 1, by omega⟩

theorem str_append (xs ys : List Int) : strOfNums (xs ++ ys) = strOfNums xs ++ strOfNums ys := by
  apply ByteArray.ext
  simp [strOfNums]
theorem str_bytesOf (s : ByteArray) : strOfNums (bytesOf s) = s := by
  apply ByteArray.ext
  simp only [strOfNums, bytesOf, List.map_map]
  have : s.data.toList.map ((fun n : Int => UInt8.ofNat n.toNat) ∘ fun b : UInt8 => (b.toNat : Int)) = s.data.toList := by
    rw [List.map_congr_left (g := id) (fun b _ => by simp), List.map_id]
  rw [this]

/-! decimal numerals: the reference's are the library's -/
def ofL (l : List UInt8) : ByteArray := ⟨l.toArray⟩
theorem ofL_app (a b : List UInt8) : ofL a ++ ofL b = ofL (a ++ b) := by apply ByteArray.ext; simp [ofL]
theorem ofL_size (a : List UInt8) : (ofL a).size = a.length := by simp [ofL, ByteArray.size]
theorem ofL_nil (x : ByteArray) : ofL [] ++ x = x := by apply ByteArray.ext; simp [ofL]
theorem ofL_list (a : List UInt8) : (ofL a).data.toList = a := by simp [ofL]
theorem ofL_of (x : ByteArray) : ofL x.data.toList = x := by apply ByteArray.ext; simp [ofL]
theorem fig_eq (d : Nat) (h : d < 10) : spec_l01Figure.f (d : Int) = some ((48 + d : Nat) : Int) := by
  unfold spec_l01Figure.f
  rw [if_pos (by omega), w64 (by omega) (by omega)]
  congr 1
  omega
theorem str_one (d : Nat) : strOfNums [((d : Nat) : Int)] = ofL [UInt8.ofNat d] := by simp [strOfNums, ofL]
def dl (u : Nat) : List UInt8 := if u = 0 then [] else Lib.decDigits u
theorem dl_step (u : Nat) (h : u ≠ 0) : dl u = dl (u / 10) ++ [UInt8.ofNat (48 + u % 10)] := by
  unfold dl
  rw [if_neg h]
  by_cases h10 : u < 10
  · rw [if_pos (show u / 10 = 0 by omega), Lib.decDigits, dif_pos h10, Nat.mod_eq_of_lt h10]; rfl
  · rw [if_neg (show ¬ u / 10 = 0 by omega), Lib.decDigits, dif_neg h10]
theorem dec_l : ∀ (m u : Nat) (x : Int) (ng : Bool) (acc : ByteArray) (k : Nat), (x = u ∨ x = -(u : Int)) → u < 10 ^ m → m ≤ 19 → u ≤ 9223372036854775808 → m < k → acc.size + m ≤ 1000 →
    spec_Decimal.l0 k x ng acc = some (ofL (if ng = true then [45] else []) ++ (ofL (dl u) ++ acc)) := by
  intro m
  have zero : ∀ (ng : Bool) (acc : ByteArray) (k : Nat), acc.size ≤ 1000 → spec_Decimal.l0 (k + 1) 0 ng acc = some (ofL (if ng = true then [45] else []) ++ (ofL (dl 0) ++ acc)) := by
    intro ng acc k ha
    have e : ofL (dl 0) ++ acc = acc := ofL_nil acc
    rw [spec_Decimal.l0, if_pos rfl, e]
    cases ng with
    | true => rw [if_pos rfl, if_pos (by omega), if_pos rfl]; rfl
    | false => rw [if_neg (by decide), if_neg (by decide), ofL_nil]
  induction m with
  | zero =>
    intro u x ng acc k hx hu hm hb hk ha
    obtain ⟨k, rfl⟩ := ksucc hk
    have e : u = 0 := by simp at hu; omega
    subst e
    have e : x = 0 := by omega
    subst e
    exact zero ng acc k (by omega)
  | succ m ih =>
    intro u x ng acc k hx hu hm hb hk ha
    obtain ⟨k, rfl⟩ := ksucc (show m + 1 < k from hk)
    by_cases h0 : u = 0
    · subst h0
      have e : x = 0 := by omega
      subst e
      exact zero ng acc k (by omega)
    · have hx0 : x ≠ 0 := by omega
      rw [Nat.pow_succ] at hu
      have hd : u / 10 < 10 ^ m := by omega
      have h48 : u % 10 < 10 := by omega
      have hs : (ofL [UInt8.ofNat (48 + u % 10)]).size = 1 := ofL_size _
      have tail : ∀ y : Int, (y = ((u / 10 : Nat) : Int) ∨ y = -((u / 10 : Nat) : Int)) → (if (strOfNums [((48 + u % 10 : Nat) : Int)]).size + acc.size ≤ 9223372036854775807 then spec_Decimal.l0 k (wrap64 y) ng (strOfNums [((48 + u % 10 : Nat) : Int)] ++ acc) else none) = some (ofL (if ng = true then [45] else []) ++ (ofL (dl u) ++ acc)) := by
        intro y hy
        rw [str_one, hs, if_pos (by omega), w64 (by omega) (by omega), ih (u / 10) y ng _ k hy hd (by omega) (by omega) (by omega) (by rw [ByteArray.size_append, hs]; omega), dl_step u h0, ← ofL_app]
        congr 2
        apply ByteArray.ext
        simp [ofL]
      rw [spec_Decimal.l0, if_neg hx0]
      by_cases hneg : x < 0
      · have e : x = -(u : Int) := by omega
        have em : Int.tmod x 10 = -((u % 10 : Nat) : Int) := by rw [e, Int.neg_tmod, Int.tmod_eq_emod_of_nonneg (by omega)]; omega
        have ed : Int.tdiv x 10 = -((u / 10 : Nat) : Int) := by rw [e, Int.neg_tdiv, Int.tdiv_eq_ediv_of_nonneg (by omega)]; omega
        by_cases hz : u % 10 = 0
        · rw [if_neg (by rw [em]; omega), em]
          have e2 : (-((u % 10 : Nat) : Int)) = ((u % 10 : Nat) : Int) := by omega
          rw [e2, fig_eq _ h48]
          simp only [Option.bind_some]
          rw [ed]
          exact tail _ (.inr rfl)
        · rw [if_pos (by rw [em]; omega), em, show (-(-((u % 10 : Nat) : Int))) = ((u % 10 : Nat) : Int) by omega, w64 (by omega) (by omega), fig_eq _ h48]
          simp only [Option.bind_some]
          rw [ed]
          exact tail _ (.inr rfl)
      · have e : x = (u : Int) := by omega
        have em : Int.tmod x 10 = ((u % 10 : Nat) : Int) := by rw [e, Int.tmod_eq_emod_of_nonneg (by omega)]; omega
        have ed : Int.tdiv x 10 = ((u / 10 : Nat) : Int) := by rw [e, Int.tdiv_eq_ediv_of_nonneg (by omega)]; omega
        rw [if_neg (by rw [em]; omega), em, fig_eq _ h48]
        simp only [Option.bind_some]
        rw [ed]
        exact tail _ (.inl rfl)
/-- The reference's numeral. -/
theorem specDec_ev (n : Int) (h1 : -9223372036854775808 ≤ n) (h2 : n ≤ 9223372036854775807) (k : Nat) (hk : 20 < k) : spec_Decimal.f k n = some (ofL (Lib.itoa n)) := by
  unfold spec_Decimal.f
  by_cases h0 : n = 0
  · subst h0; rw [if_pos rfl]; simp [Lib.itoa, Lib.decDigits, ofL]
  · rw [if_neg h0]
    have he : (⟨#[]⟩ : ByteArray) = ofL [] := rfl
    rw [dec_l 19 n.natAbs n (decide (n < 0)) ⟨#[]⟩ k (by omega) (by omega) (by omega) (by omega) (by omega) (by simp [ByteArray.size]), he, ofL_app, ofL_app]
    unfold Lib.itoa dl
    rw [if_neg (show ¬ n.natAbs = 0 by omega)]
    by_cases hn : n < 0
    · rw [if_pos hn, if_pos (by simpa using hn)]; simp
    · rw [if_neg hn, if_neg (by simpa using hn), show n.toNat = n.natAbs by omega]; simp
theorem implDec_ev (n : Int) (h1 : -9223372036854775808 ≤ n) (h2 : n ≤ 9223372036854775807) : impl_Decimal.f n = some (ofL (Lib.itoa n)) := if_pos ⟨h1, h2⟩
theorem dec_len (n : Int) (h1 : -9223372036854775808 ≤ n) (h2 : n ≤ 9223372036854775807) : (Lib.itoa n).length ≤ 21 := Lib.itoa_length_le n h1 h2

/-! the words of the kinds -/
/-- The word of a kind, and how many numbers follow it. -/
def word (a : Int) : List UInt8 × Int :=
  if a = 1 then ([111, 114, 100, 101, 114], 1) else if a = 2 then ([116, 105, 99, 107], 0) else if a = 3 then ([114, 101, 103, 105, 115, 116, 101, 114], 2) else if a = 4 then ([99, 108, 97, 105, 109], 1) else if a = 5 then ([114, 101, 108, 101, 97, 115, 101], 1) else if a = 6 then ([109, 111, 118, 101], 2) else if a = 7 then ([97, 99, 107], 1) else ([99, 97, 110, 99, 101, 108], 0)
theorem word_spec (a : Int) (h : 1 ≤ a ∧ a ≤ 8) : spec_l30Word.f a = some (ofL (word a).1, (word a).2) ∧ impl_wordOf.f a = some (ofL (word a).1, (word a).2) := by
  obtain ⟨h1, h2⟩ := h
  have e : a = 1 ∨ a = 2 ∨ a = 3 ∨ a = 4 ∨ a = 5 ∨ a = 6 ∨ a = 7 ∨ a = 8 := by omega
  rcases e with rfl | rfl | rfl | rfl | rfl | rfl | rfl | rfl <;> exact ⟨rfl, rfl⟩
theorem word_none (a : Int) (h : ¬ (1 ≤ a ∧ a ≤ 8)) : spec_l30Word.f a = some (ofL [], 0) ∧ impl_wordOf.f a = some (ofL [], -1) := by
  unfold spec_l30Word.f impl_wordOf.f
  simp only [show ¬ a = 1 by omega, show ¬ a = 2 by omega, show ¬ a = 3 by omega, show ¬ a = 4 by omega, show ¬ a = 5 by omega, show ¬ a = 6 by omega, show ¬ a = 7 by omega, show ¬ a = 8 by omega, if_false]
  exact ⟨rfl, rfl⟩
theorem word_ok (a : Int) : (word a).1 ≠ [] ∧ (word a).1.length ≤ 8 ∧ 0 ≤ (word a).2 ∧ (word a).2 ≤ 2 := by
  unfold word
  repeat' split
  all_goals exact ⟨by decide, by decide, by decide, by decide⟩

/-! reading a numeral -/
theorem digitVal_fig (d : Nat) (h : d < 10) : Lib.digitVal (UInt8.ofNat (48 + d)) = some d := by
  have e : (UInt8.ofNat (48 + d)).toNat = 48 + d := by simp; omega
  unfold Lib.digitVal
  rw [e, if_pos (by omega)]
  congr 1
  omega
theorem decFrom_app (l : List UInt8) : ∀ (acc : Nat) (b : UInt8), Lib.decFrom acc (l ++ [b]) = (Lib.decFrom acc l).bind fun n => (Lib.digitVal b).map fun d => n * 10 + d := by
  induction l with
  | nil => intro acc b; simp only [List.nil_append, Lib.decFrom]; cases Lib.digitVal b <;> rfl
  | cons a r ih =>
    intro acc b
    simp only [List.cons_append, Lib.decFrom]
    cases Lib.digitVal a with
    | none => rfl
    | some d => exact ih _ b
theorem decFrom_digits (u : Nat) : Lib.decFrom 0 (Lib.decDigits u) = some u := by
  induction u using Nat.strongRecOn with
  | _ u ih =>
    by_cases h : u < 10
    · rw [Lib.decDigits, dif_pos h]
      simp only [Lib.decFrom]
      rw [digitVal_fig u h]
      simp
    · rw [Lib.decDigits, dif_neg h, decFrom_app, ih (u / 10) (by omega), digitVal_fig _ (by omega)]
      simp only [Option.bind_some, Option.map_some]
      congr 1
      omega
theorem nDigits_le : ∀ (k u : Nat), u < 10 ^ (k + 1) → Lib.nDigits u ≤ k + 1
  | 0, u, h => by rw [Lib.nDigits_small (by simpa using h)]; omega
  | k + 1, u, h => by
    by_cases h1 : u < 10
    · rw [Lib.nDigits_small h1]; omega
    · rw [Lib.nDigits_big h1]
      rw [Nat.pow_succ] at h
      have := nDigits_le k (u / 10) (by omega)
      omega
def numO (L : List UInt8) : Int × Bool := match Lib.decFrom 0 L with
  | some v => if v ≤ 1000000000 ∧ Lib.decDigits v = L then ((v : Int), true) else (0, false)
  | none => (0, false)
theorem numO_some (v : Nat) (h : v ≤ 1000000000) : numO (Lib.decDigits v) = ((v : Int), true) := by
  unfold numO; rw [decFrom_digits]; simp [h]
theorem numO_none (L : List UInt8) (h : ∀ v, v ≤ 1000000000 → Lib.decDigits v ≠ L) : numO L = (0, false) := by
  unfold numO
  split
  · rw [if_neg (fun t => h _ t.1 t.2)]
  · rfl
theorem atoi_digits (v : Nat) (h : v ≤ 1000000000) : Lib.atoiAll (Lib.decDigits v) = .ok (v : Int) := by
  have hl : (Lib.decDigits v).length ≤ 10 := by rw [Lib.decDigits_length]; exact nDigits_le 9 v (by omega)
  rw [Lib.atoiAll_short _ (by omega)]
  have hp : 1 ≤ (Lib.decDigits v).length := by rw [Lib.decDigits_length]; exact Lib.nDigits_pos v
  have hd := decFrom_digits v
  generalize Lib.decDigits v = L at hd hp ⊢
  cases L with
  | nil => simp at hp
  | cons b r =>
    obtain ⟨d, hb⟩ := Lib.digit_of_decFrom _ _ _ hd 0 b (by simp)
    have h1 : b ≠ 45 := by rintro rfl; simp [Lib.digitVal] at hb
    have h2 : b ≠ 43 := by rintro rfl; simp [Lib.digitVal] at hb
    simp only [Lib.atoi, beq_iff_eq, if_neg h1, if_neg h2, Lib.decNat, List.isEmpty_cons, hd]
    rfl
theorem list_len (s : ByteArray) : s.data.toList.length = s.size := by rw [Array.length_toList]; rfl
theorem bt_get (s : ByteArray) (i : Nat) (h : i < s.size) : bt s (i : Int) = ((s.data.toList[i]'(by rw [list_len]; exact h)).toNat : Int) := by
  unfold bt
  rw [dif_pos (by simpa using h)]
  simp [ByteArray.getElem_eq_getElem_data]
theorem specRD_l (s : ByteArray) (hs : s.size ≤ 10) : ∀ (d i acc k : Nat), i + d = s.size → acc < 10 ^ i → d + 22 < k →
    spec_ReadDecimal.l0 k s (acc : Int) (i : Int) = some (match Lib.decFrom acc (s.data.toList.drop i) with
      | some v => if v ≤ 1000000000 ∧ Lib.decDigits v = s.data.toList then ((v : Int), true) else (0, false)
      | none => (0, false)) := by
  have hz : s.data.toList.length = s.size := list_len s
  intro d
  induction d with
  | zero =>
    intro i acc k hi ha hk
    obtain ⟨k, rfl⟩ := ksucc hk
    have hp : 10 ^ i ≤ 10 ^ 10 := Nat.pow_le_pow_right (by omega) (by omega)
    rw [spec_ReadDecimal.l0, if_neg (by omega), List.drop_eq_nil_of_le (by omega)]
    simp only [Lib.decFrom]
    by_cases hv : acc ≤ 1000000000
    · rw [if_neg (by omega), specDec_ev _ (by omega) (by omega) _ (by omega)]
      simp only [Option.bind_some, ByteArray.toList_eq, ofL_list, Lib.itoa_nonneg]
      by_cases e : Lib.decDigits acc = s.data.toList
      · rw [if_pos e, if_pos ⟨hv, e⟩]
      · rw [if_neg e, if_neg (fun t => e t.2)]
    · rw [if_pos (by omega), if_neg (fun t => hv t.1)]
  | succ d ih =>
    intro i acc k hi ha hk
    obtain ⟨k, rfl⟩ := ksucc hk
    have hp : 10 ^ i ≤ 10 ^ 10 := Nat.pow_le_pow_right (by omega) (by omega)
    have hl : i < s.data.toList.length := by omega
    rw [spec_ReadDecimal.l0, if_pos (by omega), if_pos (by omega), bt_get s i (by omega), List.drop_eq_getElem_cons hl]
    simp only [Lib.decFrom]
    generalize s.data.toList[i] = c
    have hc : c.toNat < 256 := c.toNat_lt
    by_cases h1 : (c.toNat : Int) < 48
    · rw [if_pos h1]; unfold Lib.digitVal; rw [if_neg (by omega)]
    · rw [if_neg h1]
      by_cases h2 : (c.toNat : Int) > 57
      · rw [if_pos h2]; unfold Lib.digitVal; rw [if_neg (by omega)]
      · rw [if_neg h2]
        unfold Lib.digitVal
        rw [if_pos (by omega)]
        simp only
        have hq : 10 ^ (i + 1) = 10 ^ i * 10 := Nat.pow_succ ..
        have := ih (i + 1) (acc * 10 + (c.toNat - 48)) k (by omega) (by omega) (by omega)
        rw [← this, w64 (x := 10 * (acc : Int)) (by omega) (by omega), w64 (x := (c.toNat : Int)) (by omega) (by omega), w64 (x := 10 * (acc : Int) + _) (by omega) (by omega), w64 (by omega) (by omega), w64 (by omega) (by omega)]
        congr 1
        omega
theorem specRD (s : ByteArray) (k : Nat) (hk : 40 < k) : spec_ReadDecimal.f k s = some (numO s.data.toList) := by
  unfold spec_ReadDecimal.f
  by_cases h : (s.size : Int) > 10
  · rw [if_pos h, numO_none]
    intro v hv e
    have hl : (Lib.decDigits v).length ≤ 10 := by rw [Lib.decDigits_length]; exact nDigits_le 9 v (by omega)
    rw [e, list_len] at hl
    omega
  · rw [if_neg h]
    exact specRD_l s (by omega) s.size 0 0 k (by omega) (by omega) (by omega)

/-! the program's reading of a numeral -/
theorem implRD (s : ByteArray) (h : s.size ≤ 140737488355328) : impl_ReadDecimal.f s = some (numO s.data.toList) := by
  unfold impl_ReadDecimal.f impl_signed.f
  rw [if_pos h]
  by_cases hx : ∃ v, v ≤ 1000000000 ∧ Lib.decDigits v = s.data.toList
  · obtain ⟨v, hv, e⟩ := hx
    rw [← e, atoi_digits v hv, numO_some v hv]
    simp only
    rw [if_neg (by omega), if_neg (by omega), if_pos (by rw [ByteArray.toList_eq, ByteArray.toList_eq, Lib.itoa_nonneg, ← e])]
    rfl
  · have hn : numO s.data.toList = (0, false) := numO_none _ (fun v hv e => hx ⟨v, hv, e⟩)
    rw [hn]
    split
    · rename_i v _
      by_cases h1 : v < 0
      · rw [if_pos h1]; rfl
      · rw [if_neg h1]
        by_cases h2 : v > 1000000000
        · rw [if_pos h2]; rfl
        · rw [if_neg h2, if_neg]
          · rfl
          · intro e
            rw [ByteArray.toList_eq, ByteArray.toList_eq] at e
            obtain ⟨u, rfl⟩ : ∃ u : Nat, v = u := ⟨v.toNat, by omega⟩
            rw [Lib.itoa_nonneg] at e
            exact hx ⟨u, by omega, by simpa using e⟩
    · rfl

/-! the words of a line -/
theorem parts_eq (s : ByteArray) : ∀ k, (∀ a b c, spec_PartsOf.l0 k s a b c = impl_PartsOf.l0 k s a b c) ∧ (∀ a b c t, spec_PartsOf.j1 k s a b c t = impl_PartsOf.j1 k s a b c t) ∧ (∀ a b c t, spec_PartsOf.j2 k s a b c t = impl_PartsOf.j2 k s a b c t) := by
  intro k
  induction k with
  | zero => exact ⟨fun _ _ _ => rfl, fun _ _ _ _ => rfl, fun _ _ _ _ => rfl⟩
  | succ k ih =>
    obtain ⟨h0, h1, h2⟩ := ih
    refine ⟨fun a b c => ?_, fun a b c t => ?_, fun a b c t => ?_⟩
    · rw [spec_PartsOf.l0, impl_PartsOf.l0]; simp only [h1]
    · rw [spec_PartsOf.j1, impl_PartsOf.j1]; simp only [h2]
    · rw [spec_PartsOf.j2, impl_PartsOf.j2]; simp only [h0, GT.gt]
theorem partsF_eq (s : ByteArray) (k : Nat) : spec_PartsOf.f k s = impl_PartsOf.f k s := by
  unfold spec_PartsOf.f impl_PartsOf.f
  simp only [Option.bind_some, (parts_eq s k).1]
def partsOk (o : Option (List ByteArray × Bool)) : Prop := ∃ ps ok, o = some (ps, ok) ∧ ps.length ≤ 12 ∧ ∀ p ∈ ps, 0 < p.size ∧ p.size ≤ 600
theorem partsOk_nil (b : Bool) : partsOk (some ([], b)) := ⟨[], b, rfl, by simp, by simp⟩
theorem parts_end (s : ByteArray) (hs : s.size ≤ 600) : ∀ (d i a k : Nat) (xs : List ByteArray), i + d = s.size + 1 → a ≤ i → xs.length ≤ i → (∀ p ∈ xs, 0 < p.size ∧ p.size ≤ 600) → 3 * d < k → partsOk (impl_PartsOf.l0 k s xs (a : Int) (i : Int)) := by
  intro d
  induction d with
  | zero =>
    intro i a k xs hi ha hx hp hk
    obtain ⟨k, rfl⟩ := ksucc hk
    rw [impl_PartsOf.l0, if_neg (by omega)]
    by_cases h : (xs.length : Int) > 12
    · rw [if_pos h]; exact partsOk_nil _
    · rw [if_neg h]; exact ⟨xs, true, rfl, by omega, hp⟩
  | succ d ih =>
    intro i a k xs hi ha hx hp hk
    obtain ⟨k, rfl⟩ := ksucc (show 2 < k by omega)
    obtain ⟨k, rfl⟩ := ksucc (show 1 < k by omega)
    obtain ⟨k, rfl⟩ := ksucc (show 0 < k by omega)
    have e1 : wrap64 ((i : Int) + 1) = ((i + 1 : Nat) : Int) := wnat (by omega)
    have j2 : ∀ t, partsOk (impl_PartsOf.j2 (k + 1) s xs (a : Int) (i : Int) t) := by
      intro t
      rw [impl_PartsOf.j2, e1]
      cases t with
      | true => rw [if_pos rfl]; exact ih (i + 1) a k xs (by omega) (by omega) (by omega) hp (by omega)
      | false =>
        rw [if_neg (by decide)]
        by_cases hlt : (i : Int) > a
        · rw [if_pos hlt, if_pos (by omega), if_pos (by omega)]
          by_cases hle : (i : Int) ≤ s.size
          · rw [if_pos hle, if_pos (by omega)]
            refine ih (i + 1) (i + 1) k _ (by omega) (by omega) (by simp; omega) ?_ (by omega)
            intro p hm
            rcases List.mem_append.1 hm with h | h
            · exact hp p h
            · rw [List.mem_singleton.1 h, ByteArray.size_extract]
              omega
          · omega
        · rw [if_neg hlt]; exact ih (i + 1) (i + 1) k xs (by omega) (by omega) (by omega) hp (by omega)
    have j1 : ∀ t, partsOk (impl_PartsOf.j1 (k + 1 + 1) s xs (a : Int) (i : Int) t) := by
      intro t
      rw [impl_PartsOf.j1]
      cases t with
      | true => rw [if_pos rfl]; exact partsOk_nil _
      | false =>
        rw [if_neg (by decide)]
        by_cases h : (i : Int) < s.size
        · rw [if_pos h, if_pos (by omega)]; exact j2 _
        · rw [if_neg h]; exact j2 _
    rw [impl_PartsOf.l0, if_pos (by omega)]
    by_cases h : (i : Int) < s.size
    · rw [if_pos h, if_pos (by omega)]
      by_cases hb : bt s (i : Int) < 32
      · rw [if_pos hb]; exact j1 _
      · rw [if_neg hb]; exact j1 _
    · rw [if_neg h]; exact j1 _
theorem partsF_end (s : ByteArray) (k : Nat) (hk : 1810 < k) : partsOk (impl_PartsOf.f k s) := by
  unfold impl_PartsOf.f
  by_cases h : (s.size : Int) > 600
  · rw [if_pos h]; exact partsOk_nil _
  · rw [if_neg h]
    exact parts_end s (by omega) (s.size + 1) 0 0 k [] (by omega) (by omega) (by simp) (by simp) (by omega)

/-! a command read from its words -/
theorem nums_eq (k : Nat) (hk : 60 < k) (a n : Int) (h0 : 0 ≤ n) (h2 : n ≤ 2) (ps : List ByteArray) (hl : (ps.length : Int) = n + 1) (hp : ∀ p ∈ ps, p.size ≤ 600) :
    ∃ r, spec_ReadCmd.l1 k ps n 0 a 0 0 = some r ∧ (impl_ReadCmd.nums k (ps.drop 1) 0 0 0).bind (fun o => (match o with
    | some (x, y) => some (a, x, y, true)
    | none => some (0, 0, 0, false))) = some r := by
  obtain ⟨k, rfl⟩ := ksucc (show 59 < k by omega)
  obtain ⟨k, rfl⟩ := ksucc (show 58 < k by omega)
  obtain ⟨k, rfl⟩ := ksucc (show 57 < k by omega)
  have e01 : wrap64 (0 + 1) = 1 := w64 (by omega) (by omega)
  have e11 : wrap64 (1 + 1) = 2 := w64 (by omega) (by omega)
  have e2 : wrap64 2 = 2 := w64 (by omega) (by omega)
  have e3 : wrap64 3 = 3 := w64 (by omega) (by omega)
  have hn : n = 0 ∨ n = 1 ∨ n = 2 := by omega
  match ps, hl, hp with
  | [], hl, _ => simp at hl; omega
  | [p], hl, hp =>
    have e : n = 0 := by simp at hl; omega
    subst e
    refine ⟨(a, 0, 0, true), ?_, ?_⟩
    · rw [spec_ReadCmd.l1, if_neg (by omega)]
    · rw [impl_ReadCmd.nums, if_neg (by simp)]; rfl
  | [p, q], hl, hp =>
    have e : n = 1 := by simp at hl; omega
    subst e
    have hq := implRD q (by have := hp q (by simp); omega)
    have hs : ∀ k, 40 < k → spec_ReadDecimal.f k q = some (numO q.data.toList) := specRD q
    generalize numO q.data.toList = o at hq hs
    obtain ⟨v, b⟩ := o
    rw [spec_ReadCmd.l1, impl_ReadCmd.nums]
    simp only [e01, List.drop_succ_cons, List.drop_zero, List.length_cons, List.length_nil, rdOf]
    cases b with
    | true =>
      refine ⟨(a, v, 0, true), ?_, ?_⟩
      · simp [hs _ (show 40 < k + 1 + 1 by omega), spec_ReadCmd.l1]
      · simp [hq, impl_ReadCmd.nums]
    | false =>
      refine ⟨(0, 0, 0, false), ?_, ?_⟩
      · simp [hs _ (show 40 < k + 1 + 1 by omega)]
      · simp [hq]
  | [p, q, r], hl, hp =>
    have e : n = 2 := by simp at hl; omega
    subst e
    have hq := implRD q (by have := hp q (by simp); omega)
    have hs : ∀ k, 40 < k → spec_ReadDecimal.f k q = some (numO q.data.toList) := specRD q
    have hq2 := implRD r (by have := hp r (by simp); omega)
    have hs2 : ∀ k, 40 < k → spec_ReadDecimal.f k r = some (numO r.data.toList) := specRD r
    generalize numO q.data.toList = o at hq hs
    generalize numO r.data.toList = o2 at hq2 hs2
    obtain ⟨v, b⟩ := o
    obtain ⟨v2, b2⟩ := o2
    rw [spec_ReadCmd.l1, impl_ReadCmd.nums]
    simp only [e01, List.drop_succ_cons, List.drop_zero, List.length_cons, List.length_nil, rdOf]
    cases b with
    | true =>
      cases b2 with
      | true =>
        refine ⟨(a, v, v2, true), ?_, ?_⟩
        · simp [hs _ (show 40 < k + 1 + 1 by omega), hs2 _ (show 40 < k + 1 by omega), spec_ReadCmd.l1, e11, e2, e3, rdOf]
        · simp [hq, hq2, impl_ReadCmd.nums, rdOf]
      | false =>
        refine ⟨(0, 0, 0, false), ?_, ?_⟩
        · simp [hs _ (show 40 < k + 1 + 1 by omega), hs2 _ (show 40 < k + 1 by omega), spec_ReadCmd.l1, e11, e2, e3, rdOf]
        · simp [hq, hq2, impl_ReadCmd.nums, rdOf]
    | false =>
      refine ⟨(0, 0, 0, false), ?_, ?_⟩
      · simp [hs _ (show 40 < k + 1 + 1 by omega)]
      · simp [hq]
  | p :: q :: r :: s :: t, hl, hp => simp at hl; omega
theorem kinds_eq (ps : List ByteArray) (h1 : 1 ≤ ps.length) (hl : ps.length ≤ 12) (hp : ∀ p ∈ ps, p.size ≤ 600) : ∀ (d k i : Nat), i + d = 9 → 1 ≤ i → 2 * d + 62 < k →
    ∃ r, spec_ReadCmd.l0 k ps (i : Int) = some r ∧ impl_ReadCmd.l0 k ps (i : Int) = some r := by
  intro d
  induction d with
  | zero =>
    intro k i hi h hk
    obtain ⟨k, rfl⟩ := ksucc hk
    rw [spec_ReadCmd.l0, impl_ReadCmd.l0, if_neg (by omega), if_neg (by omega)]
    exact ⟨_, rfl, rfl⟩
  | succ d ih =>
    intro k i hi h hk
    obtain ⟨k, rfl⟩ := ksucc (show 2 < k by omega)
    obtain ⟨k, rfl⟩ := ksucc (show 1 < k by omega)
    obtain ⟨w1, w2⟩ := word_spec (i : Int) (by omega)
    obtain ⟨o1, o2, o3, o4⟩ := word_ok (i : Int)
    have nx := ih k (i + 1) (by omega) (by omega) (by omega)
    have e1 : wrap64 ((i : Int) + 1) = ((i + 1 : Nat) : Int) := wnat (by omega)
    have hi8 : (i : Int) ≤ 8 := by omega
    rw [spec_ReadCmd.l0, impl_ReadCmd.l0, if_pos hi8, if_pos hi8, w1, w2]
    simp only [Option.bind_some]
    have hpos : 0 < (ps.length : Int) := by omega
    simp only [if_pos hpos]
    have miss : ∃ r, spec_ReadCmd.j2 (k + 1) ps (i : Int) (word (i : Int)).2 true = some r ∧ impl_ReadCmd.j2 (k + 1) ps (i : Int) true = some r := by
      rw [spec_ReadCmd.j2, impl_ReadCmd.j2, if_pos rfl, if_pos rfl, e1]; exact nx
    by_cases he : (ofL (word (i : Int)).1).toList = (rdOf ByteArray.empty ps 0).toList
    · rw [if_pos he, if_pos he, w64 (by omega) (by omega)]
      by_cases hn : (ps.length : Int) = (word (i : Int)).2 + 1
      · have e : ((ps.length : Int) != (word (i : Int)).2 + 1) = false := by simp [hn]
        rw [e, spec_ReadCmd.j2, impl_ReadCmd.j2, if_neg (by decide), if_neg (by decide), if_pos h1]
        exact nums_eq k (by omega) _ _ o3 o4 ps hn hp
      · have e : ((ps.length : Int) != (word (i : Int)).2 + 1) = true := by simp [hn]
        rw [e]; exact miss
    · rw [if_neg he, if_neg he]; exact miss
theorem readCmd_eq (s : ByteArray) (k : Nat) (hk : 2000 < k) : ∃ r, spec_ReadCmd.f k s = some r ∧ impl_ReadCmd.f k s = some r := by
  obtain ⟨k, rfl⟩ := ksucc hk
  obtain ⟨ps, ok, e, hl, hp⟩ := partsF_end s (k + 1) (by omega)
  unfold spec_ReadCmd.f impl_ReadCmd.f
  rw [partsF_eq, e]
  simp only [Option.bind_some]
  have none1 : ∃ r, spec_ReadCmd.j0 (k + 1) ps true = some r ∧ impl_ReadCmd.j0 (k + 1) ps true = some r := by
    rw [spec_ReadCmd.j0, impl_ReadCmd.j0, if_pos rfl, if_pos rfl]; exact ⟨_, rfl, rfl⟩
  cases ok with
  | false => rw [if_neg (by decide), if_neg (by decide)]; exact none1
  | true =>
    rw [if_pos rfl, if_pos rfl]
    by_cases h : ps.length = 0
    · have e : ((ps.length : Int) == 0) = true := by simp [h]
      rw [e]; exact none1
    · have e : ((ps.length : Int) == 0) = false := by simp; intro t; subst t; simp at h
      rw [e, spec_ReadCmd.j0, impl_ReadCmd.j0, if_neg (by decide), if_neg (by decide)]
      exact kinds_eq ps (by omega) hl (fun p h => (hp p h).2) 8 k 1 rfl (by omega) (by omega)

/-! a text cut at each of its bytes of one kind -/
def cutA (c : UInt8) : List UInt8 → List UInt8 → List (List UInt8)
  | cur, [] => [cur]
  | cur, b :: r => if b = c then cur :: cutA c [] r else cutA c (cur ++ [b]) r
theorem index_eq (c : UInt8) (l : List UInt8) : Lib.index (c :: l) [c] = ((0 : Nat) : Int) := by rw [Lib.index]; simp [List.isPrefixOf]
theorem index_ne (b c : UInt8) (l : List UInt8) (h : b ≠ c) : Lib.index (b :: l) [c] = if Lib.index l [c] == -1 then -1 else Lib.index l [c] + 1 := by
  have hp : ([c] : List UInt8).isPrefixOf (b :: l) = false := by simp [List.isPrefixOf, Ne.symm h]
  rw [Lib.index, hp]; simp
theorem cut_split (c : UInt8) : ∀ (l cur : List UInt8), ∃ h t, Lib.splitK [c] 0 (Lib.count l [c]) l = h :: t ∧ cutA c cur l = (cur ++ h) :: t
  | [], cur => by rw [Lib.count_one]; exact ⟨[], [], rfl, by simp [cutA]⟩
  | b :: l, cur => by
    by_cases hb : b = c
    · subst hb
      rw [Lib.count_cons_eq, Nat.add_comm, Lib.splitK, index_eq, if_neg (by decide), cutA, if_pos rfl]
      obtain ⟨h, t, e1, e2⟩ := cut_split b l []
      refine ⟨[], cutA b [] l, ?_, by simp⟩
      simp only [List.nil_append] at e2
      rw [e2]
      simp only [List.length_cons, List.length_nil]
      simpa using e1
    · rw [Lib.count_cons_ne b c l hb, cutA, if_neg hb]
      obtain ⟨h, t, e1, e2⟩ := cut_split c l (cur ++ [b])
      rw [e2]
      rcases hn : Lib.count l [c] with _ | n
      · rw [hn] at e1
        simp only [Lib.splitK, List.cons.injEq] at e1 ⊢
        obtain ⟨rfl, rfl⟩ := e1
        exact ⟨_, _, ⟨rfl, rfl⟩, by simp⟩
      · have hm : Lib.index l [c] ≠ -1 := fun e => by rw [Lib.count_miss e] at hn; omega
        have hge := Lib.index_ge l [c]
        obtain ⟨j, hj⟩ : ∃ j : Nat, Lib.index l [c] = j := ⟨(Lib.index l [c]).toNat, by omega⟩
        have hi := index_ne b c l hb
        rw [if_neg (fun e => hm (beq_iff_eq.1 e)), hj] at hi
        rw [hn, Lib.splitK, if_neg (fun e => hm (beq_iff_eq.1 e)), hj] at e1
        rw [Lib.splitK, hi, if_neg (fun e => by have := beq_iff_eq.1 e; omega)]
        have e3 : ((j : Int)).toNat = j := by omega
        have e4 : ((j : Int) + 1).toNat = j + 1 := by omega
        simp only [e3, List.cons.injEq, Nat.add_zero] at e1
        simp only [e4, Nat.add_zero, List.length_cons, List.length_nil]
        obtain ⟨rfl, rfl⟩ := e1
        refine ⟨_, _, rfl, ?_⟩
        rw [List.take_succ_cons, show j + 1 + (0 + 1) = (j + 1) + 1 from rfl, List.drop_succ_cons]
        simp
theorem split_cut (s : ByteArray) (c : UInt8) : (Lib.splitB ⟨#[c]⟩ 0 (Lib.countB s ⟨#[c]⟩) s).map (·.data.toList) = cutA c [] s.data.toList := by
  rw [Lib.splitB_data]
  obtain ⟨h, t, e1, e2⟩ := cut_split c s.data.toList []
  rw [e2]
  exact e1
theorem cut_len (c : UInt8) : ∀ (l cur : List UInt8), ((cutA c cur l).map List.length).sum + (cutA c cur l).length = cur.length + l.length + 1
  | [], cur => by simp [cutA]
  | b :: l, cur => by
    rw [cutA]
    by_cases hb : b = c
    · rw [if_pos hb]
      have := cut_len c l []
      simp only [List.map_cons, List.sum_cons, List.length_cons, List.length_nil] at this ⊢
      omega
    · rw [if_neg hb]
      have := cut_len c l (cur ++ [b])
      simp only [List.length_append, List.length_cons, List.length_nil] at this ⊢
      omega
theorem le_sum {p : List UInt8} : ∀ {ps : List (List UInt8)}, p ∈ ps → p.length ≤ (ps.map List.length).sum
  | [], h => by simp at h
  | q :: t, h => by
    rcases List.mem_cons.1 h with rfl | h
    · simp
    · have := le_sum h; simp; omega
theorem cut_part (c : UInt8) (l : List UInt8) (p : List UInt8) (h : p ∈ cutA c [] l) : p.length ≤ l.length := by
  have h1 := cut_len c l []
  have h2 := le_sum h
  have h3 := List.length_pos_of_mem h
  simp at h1
  omega

/-! the lines of a text -/
theorem ofL_ext (s : ByteArray) (a b : Nat) : s.extract a b = ofL ((s.data.toList.drop a).take (b - a)) := by
  rw [← Lib.extract_data, ofL_of]
theorem lines_l (s : ByteArray) (hs : s.size ≤ 1048576) : ∀ (d i b k : Nat) (out : List ByteArray), i + d = s.size → b ≤ i → out.length ≤ i → d + 1 < k →
    spec_l30Lines.l0 k s out (b : Int) (i : Int) = some (out ++ (cutA 10 ((s.data.toList.drop b).take (i - b)) (s.data.toList.drop i)).map ofL) := by
  have hz := list_len s
  intro d
  induction d with
  | zero =>
    intro i b k out hi hb ho hk
    obtain ⟨k, rfl⟩ := ksucc hk
    obtain ⟨k, rfl⟩ := ksucc (show 0 < k by omega)
    have hdn : s.data.toList.drop i = [] := List.drop_eq_nil_of_le (by omega)
    rw [spec_l30Lines.l0, if_pos (by omega), if_pos (by omega), if_pos (by omega), if_pos (by omega), if_pos (by omega), wnat (by omega), spec_l30Lines.l0, if_neg (by omega), hdn]
    simp only [cutA, List.map_cons, List.map_nil]
    rw [show (b : Int).toNat = b from rfl, show (i : Int).toNat = i from rfl, ofL_ext]
  | succ d ih =>
    intro i b k out hi hb ho hk
    obtain ⟨k, rfl⟩ := ksucc hk
    have hl : i < s.data.toList.length := by omega
    rw [spec_l30Lines.l0, if_pos (by omega), if_neg (by omega), if_pos (by omega), if_pos (by omega), bt_get s i (by omega), List.drop_eq_getElem_cons hl, wnat (by omega)]
    by_cases hc : s.data.toList[i] = 10
    · rw [if_pos (by rw [hc]; decide), if_pos (by omega), if_pos (by omega), if_pos (by omega), ih (i + 1) (i + 1) k _ (by omega) (by omega) (by simp; omega) (by omega), cutA, if_pos hc]
      rw [show (b : Int).toNat = b from rfl, show (i : Int).toNat = i from rfl, ofL_ext]
      simp
    · have e : ¬ (((s.data.toList[i]).toNat : Int) = 10) := by
        intro e
        apply hc
        apply UInt8.toNat_inj.1
        show (s.data.toList[i]).toNat = 10
        omega
      rw [if_neg e, ih (i + 1) b k out (by omega) (by omega) (by omega) (by omega), cutA, if_neg hc]
      congr 4
      rw [show i + 1 - b = (i - b) + 1 by omega, List.take_succ_eq_append_getElem (by rw [List.length_drop]; omega)]
      congr 1
      simp only [List.getElem_drop, List.cons.injEq, and_true]
      congr 1
      omega
def linesOf (s : ByteArray) : List ByteArray := (cutA 10 [] s.data.toList).map ofL
theorem linesOf_len (s : ByteArray) : (linesOf s).length ≤ s.size + 1 := by
  have := cut_len 10 s.data.toList []
  rw [list_len] at this
  simp only [linesOf, List.length_map]
  simp at this
  omega
theorem specLines (s : ByteArray) (hs : s.size ≤ 1048576) (k : Nat) (hk : s.size + 1 < k) : spec_l30Lines.f k s = some (linesOf s) := by
  unfold spec_l30Lines.f
  have := lines_l s hs s.size 0 0 k [] (by omega) (by omega) (by simp) hk
  simpa [linesOf] using this
theorem ofL_list2 (ps : List ByteArray) : (ps.map (·.data.toList)).map ofL = ps := by
  rw [List.map_map]
  conv => rhs; rw [← List.map_id ps]
  exact List.map_congr_left (fun p _ => ofL_of p)
theorem implLines (s : ByteArray) (hs : s.size ≤ 1048576) : strings_Split.f s (⟨#[10]⟩ : ByteArray) = some (linesOf s) := by
  unfold strings_Split.f
  have hone : (⟨#[10]⟩ : ByteArray).size = 1 := rfl
  rw [if_pos ⟨by omega, by rw [hone]; omega⟩]
  have hc := split_cut s 10
  unfold linesOf
  rw [← hc, ofL_list2]

theorem rdI (xs : List S35) (i : Nat) (h : i < xs.length) : rd_T35 xs (i : Int) = xs[i] := by simp [rd_T35, List.getD, h]
theorem eqCmd_refl (a b c : Int) : laws_eqCmd.f a b c a b c = some true := by simp [laws_eqCmd.f]
theorem eqCmdS_l (xs : List S35) (hb : xs.length ≤ 1048576) : ∀ (d i k : Nat), i + d = xs.length → d < k → laws_eqCmdS.l0 k xs xs (i : Int) = some true := by
  intro d
  induction d with
  | zero =>
    intro i k h hk
    obtain ⟨k, rfl⟩ := ksucc hk
    simp only [laws_eqCmdS.l0]
    rw [if_neg (by omega)]
  | succ d ih =>
    intro i k h hk
    obtain ⟨k, rfl⟩ := ksucc hk
    simp only [laws_eqCmdS.l0, eqCmd_refl, Option.bind_some]
    rw [if_pos (by omega), if_pos (by omega), if_pos (by omega), if_pos trivial, wnat (by omega)]
    exact ih (i + 1) k (by omega) (by omega)
theorem eqCmdS_ev (xs : List S35) (hb : xs.length ≤ 1048576) (k : Nat) (hk : xs.length < k) : laws_eqCmdS.f k xs xs = some true := by
  unfold laws_eqCmdS.f
  rw [if_pos rfl]
  exact eqCmdS_l xs hb xs.length 0 k (by omega) hk

/-! marks -/
def marked (n : Nat) : Nat → List S35
  | 0 => []
  | m + 1 => ⟨1 + 3 * n, 2 + 3 * n, 3 + 3 * n⟩ :: marked (n + 1) m
theorem marked_length : ∀ (m n : Nat), (marked n m).length = m
  | 0, _ => rfl
  | m + 1, n => by simp [marked, marked_length m (n + 1)]
theorem marked_get : ∀ (m n i : Nat) (h : i < (marked n m).length), (marked n m)[i] = ⟨1 + 3 * (n + i : Nat), 2 + 3 * (n + i : Nat), 3 + 3 * (n + i : Nat)⟩
  | 0, _, _, h => by simp [marked] at h
  | m + 1, n, 0, _ => by simp [marked]
  | m + 1, n, i + 1, h => by
    have := marked_get m (n + 1) i (by simpa [marked] using h)
    simp only [marked, List.getElem_cons_succ, this]
    have e : n + 1 + i = n + (i + 1) := by omega
    rw [e]
theorem marked_snoc (m n : Nat) : marked n (m + 1) = marked n m ++ [⟨1 + 3 * (n + m : Nat), 2 + 3 * (n + m : Nat), 3 + 3 * (n + m : Nat)⟩] := by
  induction m generalizing n with
  | zero => simp [marked]
  | succ m ih =>
    have e : n + 1 + m = n + (m + 1) := by omega
    rw [marked, ih (n + 1), e]
    rfl
theorem markCmdS_l (xs : List S35) (hb : xs.length ≤ 1048576) : ∀ (d i k : Nat), i + d = xs.length → d < k →
    laws_markCmdS.l0 k (marked 0 i ++ xs.drop i) (1 + 3 * (i : Int)) (i : Int) = some (1 + 3 * (xs.length : Int), marked 0 xs.length) := by
  intro d
  induction d with
  | zero =>
    intro i k h hk
    obtain ⟨k, rfl⟩ := ksucc hk
    have e : i = xs.length := by omega
    subst e
    have hl : (marked 0 xs.length ++ xs.drop xs.length).length = xs.length := by simp [marked_length]
    rw [laws_markCmdS.l0, if_neg (by rw [hl]; omega)]
    simp
  | succ d ih =>
    intro i k h hk
    obtain ⟨k, rfl⟩ := ksucc hk
    have hi : i < xs.length := by omega
    have hl : (marked 0 i ++ xs.drop i).length = xs.length := by simp [marked_length]; omega
    have hml := marked_length i 0
    rw [laws_markCmdS.l0, if_pos (by rw [hl]; omega), if_pos (by omega)]
    simp only [Option.bind_some]
    have e0 : (i : Int).toNat = i := by omega
    rw [e0, w64 (x := 1 + 3 * (i : Int) + 1) (by omega) (by omega), w64 (x := 1 + 3 * (i : Int) + 1 + 1) (by omega) (by omega), w64 (x := 1 + 3 * (i : Int) + 1 + 1 + 1) (by omega) (by omega), wnat (i := i) (by omega)]
    rw [List.drop_eq_getElem_cons hi]
    have put : ∀ (y z : S35) (r : List S35), (marked 0 i ++ y :: r).set i z = marked 0 i ++ z :: r := by
      intro y z r
      rw [List.set_append_right _ _ (by omega), hml, Nat.sub_self, List.set_cons_zero]
    have get : ∀ (y : S35) (r : List S35), rd_T35 (marked 0 i ++ y :: r) (i : Int) = y := by
      intro y r
      simp [rd_T35, List.getD, List.getElem?_append_right, hml]
    simp only [put, get]
    have hs := marked_snoc i 0
    have e1 : marked 0 i ++ (⟨1 + 3 * (i : Int), 1 + 3 * (i : Int) + 1, 1 + 3 * (i : Int) + 1 + 1⟩ : S35) :: xs.drop (i + 1) = marked 0 (i + 1) ++ xs.drop (i + 1) := by
      rw [hs, List.append_assoc]
      simp
      omega
    have e2 : (1 + 3 * (i : Int) + 1 + 1 + 1) = 1 + 3 * ((i + 1 : Nat) : Int) := by omega
    rw [e1, e2]
    exact ih (i + 1) k (by omega) (by omega)
theorem markCmdS_ev (xs : List S35) (hb : xs.length ≤ 1048576) (k : Nat) (hk : xs.length < k) : laws_markCmdS.f k xs 1 = some (1 + 3 * (xs.length : Int), marked 0 xs.length) := by
  have := markCmdS_l xs hb xs.length 0 k (by omega) hk
  simpa [laws_markCmdS.f, marked] using this

theorem heldCmdS_l (n : Nat) (hb : n ≤ 1048576) : ∀ (d i k : Nat), i + d = n → d < k →
    laws_heldCmdS.l0 k (marked 0 n) (1 + 3 * (i : Int)) (i : Int) = some (1 + 3 * (n : Int)) := by
  intro d
  have hml := marked_length n 0
  induction d with
  | zero =>
    intro i k h hk
    obtain ⟨k, rfl⟩ := ksucc hk
    rw [laws_heldCmdS.l0, if_neg (by omega)]
    have e : i = n := by omega
    rw [e]
  | succ d ih =>
    intro i k h hk
    obtain ⟨k, rfl⟩ := ksucc hk
    rw [laws_heldCmdS.l0, if_pos (by omega), if_pos (by omega), rdI _ i (by omega), marked_get]
    rw [w64 (x := 1 + 3 * (i : Int) + 1) (by omega) (by omega), w64 (x := 1 + 3 * (i : Int) + 1 + 1) (by omega) (by omega), w64 (x := 1 + 3 * (i : Int) + 1 + 1 + 1) (by omega) (by omega), wnat (i := i) (by omega)]
    simp only
    rw [if_pos (by omega), if_pos (by omega), if_pos (by omega)]
    have e2 : (1 + 3 * (i : Int) + 1 + 1 + 1) = 1 + 3 * ((i + 1 : Nat) : Int) := by omega
    rw [e2]
    exact ih (i + 1) k (by omega) (by omega)
theorem heldCmdS_ev (n : Nat) (hb : n ≤ 1048576) (k : Nat) (hk : n < k) : laws_heldCmdS.f k (marked 0 n) 1 = some (1 + 3 * (n : Int)) := by
  have := heldCmdS_l n hb n 0 k (by omega) hk
  simpa [laws_heldCmdS.f] using this

/-! scripts, read -/
theorem script_l (ls : List ByteArray) (hb : ls.length ≤ 1048577) : ∀ (d j k : Nat) (out : List S35), j + d = ls.length → out.length ≤ j → 2 * d + 2100 < k →
    ∃ r, spec_ReadScript.l0 k out ls (j : Int) = some r ∧ impl_ReadScript.l0 k ls out ls (ls.length : Int) (j : Int) = some r ∧ r.1.length ≤ 200 := by
  intro d
  induction d with
  | zero =>
    intro j k out hj ho hk
    obtain ⟨k, rfl⟩ := ksucc hk
    have hj0 : ¬ (j : Int) < (ls.length : Int) := by omega
    rw [spec_ReadScript.l0, impl_ReadScript.l0]
    simp only [if_neg hj0]
    by_cases h : (out.length : Int) > 200
    · simp only [if_pos h]; exact ⟨_, rfl, rfl, by simp⟩
    · simp only [if_neg h]; exact ⟨_, rfl, rfl, by show out.length ≤ 200; omega⟩
  | succ d ih =>
    intro j k out hj ho hk
    obtain ⟨k, rfl⟩ := ksucc (show 1 < k by omega)
    obtain ⟨k, rfl⟩ := ksucc (show 0 < k by omega)
    have e1 : wrap64 ((j : Int) + 1) = ((j + 1 : Nat) : Int) := wnat (by omega)
    have nx := fun o h => ih (j + 1) k o (by omega) h (by omega)
    have hj1 : (j : Int) < (ls.length : Int) := by omega
    have hj0 : 0 ≤ (j : Int) := by omega
    have j1 : ∀ t, ∃ r, spec_ReadScript.j1 (k + 1) out ls (j : Int) t = some r ∧ impl_ReadScript.j1 (k + 1) ls out (j : Int) (rdOf ByteArray.empty ls (j : Int)) ls (ls.length : Int) (j : Int) t = some r ∧ r.1.length ≤ 200 := by
      intro t
      cases t with
      | true => rw [spec_ReadScript.j1, impl_ReadScript.j1]; simp only [if_true, e1]; exact nx out (by omega)
      | false =>
        rw [spec_ReadScript.j1, impl_ReadScript.j1]
        simp only [Bool.false_eq_true, if_false, if_pos hj0, if_pos hj1]
        obtain ⟨r, h1, h2⟩ := readCmd_eq (rdOf ByteArray.empty ls (j : Int)) k (by omega)
        rw [h1, h2, e1]
        simp only [Option.bind_some]
        cases h3 : r.2.2.2 with
        | false =>
          simp only [Bool.false_eq_true, if_false]
          exact ⟨_, rfl, rfl, by simp⟩
        | true =>
          have h4 : out.length < 5864062014805 := by omega
          simp only [if_true, if_pos h4]
          exact nx _ (by simp; omega)
    obtain ⟨ps, ok, h1, h2, h3⟩ := partsF_end (rdOf ByteArray.empty ls (j : Int)) (k + 1) (by omega)
    rw [spec_ReadScript.l0, impl_ReadScript.l0]
    simp only [if_pos hj1, if_pos hj0, partsF_eq, h1, Option.bind_some]
    cases ok with
    | false => simp only [Bool.false_eq_true, if_false]; exact j1 _
    | true =>
      simp only [if_true]
      by_cases h0 : (ps.length : Int) = 0
      · simp only [if_pos h0]; exact j1 _
      · have hp : 0 < (ps.length : Int) := by omega
        have hq : 0 < ((rdOf ByteArray.empty ps 0).size : Int) := by
          match ps, hp, h3 with
          | p :: t, _, h3 => have := (h3 p (by simp)).1; simpa [rdOf] using this
        simp only [if_neg h0, if_pos hp, if_pos hq]
        exact j1 _
theorem readScript_eq (s : ByteArray) (k : Nat) (hk : 50000 < k) : ∃ r, spec_ReadScript.f k s = some r ∧ impl_ReadScript.f k s = some r ∧ r.1.length ≤ 200 := by
  unfold spec_ReadScript.f impl_ReadScript.f
  simp only [Option.bind_some]
  by_cases h : (s.size : Int) > 20000
  · simp only [if_pos h]; exact ⟨_, rfl, rfl, by simp⟩
  · simp only [if_neg h]
    rw [specLines s (by omega) k (by omega), implLines s (by omega)]
    simp only [Option.bind_some]
    have := linesOf_len s
    exact script_l (linesOf s) (by omega) (linesOf s).length 0 k [] (by omega) (by simp) (by omega)

theorem FnExactReadScript : OpFnExactReadScript.Pure := by
  intro s _
  obtain ⟨K, hK⟩ : ∃ K, 60000 < K := ⟨60001, by omega⟩
  refine ⟨K + 2, ?_⟩
  unfold laws_FnExactReadScript.f
  by_cases h : (s.size : Int) > 1048576
  · rw [if_pos h]
  rw [if_neg h]
  obtain ⟨r, a1, a2, hl⟩ := readScript_eq s (K + 2) (by omega)
  have a3 : impl_ReadScript.f (K + 1) s = some r := by
    obtain ⟨r', _, v2, _⟩ := readScript_eq s (K + 1) (by omega)
    have h9 := at_rounds (g := fun k => impl_ReadScript.f k s) (fun k => impl_ReadScript.mono _ k) (show K + 1 ≤ K + 2 by omega) (r := r') v2
    rw [v2, ← h9, a2]
  rw [a1, a2]
  simp only [Option.bind_some]
  rw [eqCmdS_ev r.1 (by omega) _ (by omega)]
  simp only [Option.bind_some, if_true]
  rw [bne_self_eq_false, laws_FnExactReadScript.j0, if_neg (by decide), markCmdS_ev r.1 (by omega) (K + 1) (by omega)]
  simp only [Option.bind_some]
  rw [heldCmdS_ev r.1.length (by omega) (K + 1) (by omega)]
  simp only [Option.bind_some]
  rw [if_neg (by omega), if_pos trivial, a3]
  simp only [Option.bind_some]
  rw [eqCmdS_ev r.1 (by omega) _ (by omega)]
  simp only [Option.bind_some, if_true]
  rw [bne_self_eq_false, laws_FnExactReadScript.j1, if_neg (by decide), heldCmdS_ev r.1.length (by omega) K (by omega)]
  simp only [Option.bind_some]
  rw [if_neg (by omega), if_pos trivial]

end Go.Proofs.YtaddjeoncbmohaaDoor.Pure
