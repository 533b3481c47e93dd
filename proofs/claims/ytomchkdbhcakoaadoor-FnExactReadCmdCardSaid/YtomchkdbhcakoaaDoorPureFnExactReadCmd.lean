/- The law FnExactReadCmd over numbers and lists alone: it answers true for every input; no condition beside the bounds of the kinds. -/
import Derived.Test.YtomchkdbhcakoaaDoorMFnExactReadCmdx
import Derived.Test.YtomchkdbhcakoaaDoorOpFnExactReadCmd
import Derived.Lib.ItoaLen
import Derived.Lib.AtoiTie
namespace Go.Proofs.YtomchkdbhcakoaaDoor.Pure
open Go.RowKit Go.Proofs.YtomchkdbhcakoaaDoor.MFnExactReadCmd Go.Proofs.YtomchkdbhcakoaaDoorW.PrintWords Go.Proofs.YtomchkdbhcakoaaDoorW.PrintLast Go.Proofs.YtomchkdbhcakoaaDoor
set_option linter.unusedVariables false
set_option linter.unusedSimpArgs false

theorem w64 {x : Int} (h1 : -9223372036854775808 ≤ x) (h2 : x ≤ 9223372036854775807) : wrap64 x = x := by unfold wrap64; omega
theorem wnat {i : Nat} (h : i < 4611686018427387904) : wrap64 ((i : Int) + 1) = ((i + 1 : Nat) : Int) := by unfold wrap64; omega
theorem ksucc {k d : Nat} (h : d < k) : ∃ m, k = m + 1 := ⟨k - 1, by omega⟩

theorem str_append (xs ys : List Int) : strOfNums (xs ++ ys) = strOfNums xs ++ strOfNums ys := by
  apply ByteArray.ext
  simp [strOfNums]
theorem str_bytesOf (s : ByteArray) : strOfNums (bytesOf s) = s := by
  apply ByteArray.ext
  simp only [strOfNums, bytesOf, List.map_map]
  have : s.data.toList.map ((fun n : Int => UInt8.ofNat n.toNat) ∘ fun b : UInt8 => (b.toNat : Int)) = s.data.toList := by
    rw [List.map_congr_left (g := id) (fun b _ => by simp), List.map_id]
  rw [this]

/-! decimal numerals: the reference's are the library's -/
def ofL (l : List UInt8) : ByteArray := ⟨l.toArray⟩
theorem ofL_app (a b : List UInt8) : ofL a ++ ofL b = ofL (a ++ b) := by apply ByteArray.ext; simp [ofL]
theorem ofL_size (a : List UInt8) : (ofL a).size = a.length := by simp [ofL, ByteArray.size]
theorem ofL_nil (x : ByteArray) : ofL [] ++ x = x := by apply ByteArray.ext; simp [ofL]
theorem ofL_list (a : List UInt8) : (ofL a).data.toList = a := by simp [ofL]
theorem ofL_of (x : ByteArray) : ofL x.data.toList = x := by apply ByteArray.ext; simp [ofL]
theorem fig_eq (d : Nat) (h : d < 10) : spec_l01Figure.f (d : Int) = some ((48 + d : Nat) : Int) := by
  unfold spec_l01Figure.f
  rw [if_pos (by omega), w64 (by omega) (by omega)]
  congr 1
  omega
theorem str_one (d : Nat) : strOfNums [((d : Nat) : Int)] = ofL [UInt8.ofNat d] := by simp [strOfNums, ofL]
def dl (u : Nat) : List UInt8 := if u = 0 then [] else Lib.decDigits u
theorem dl_step (u : Nat) (h : u ≠ 0) : dl u = dl (u / 10) ++ [UInt8.ofNat (48 + u % 10)] := by
  unfold dl
  rw [if_neg h]
  by_cases h10 : u < 10
  · rw [if_pos (show u / 10 = 0 by omega), Lib.decDigits, dif_pos h10, Nat.mod_eq_of_lt h10]; rfl
  · rw [if_neg (show ¬ u / 10 = 0 by omega), Lib.decDigits, dif_neg h10]
theorem dec_l : ∀ (m u : Nat) (x : Int) (ng : Bool) (acc : ByteArray) (k : Nat), (x = u ∨ x = -(u : Int)) → u < 10 ^ m → m ≤ 19 → u ≤ 9223372036854775808 → m < k → acc.size + m ≤ 1000 →
    spec_Decimal.l0 k x ng acc = some (ofL (if ng = true then [45] else []) ++ (ofL (dl u) ++ acc)) := by
  intro m
  have zero : ∀ (ng : Bool) (acc : ByteArray) (k : Nat), acc.size ≤ 1000 → spec_Decimal.l0 (k + 1) 0 ng acc = some (ofL (if ng = true then [45] else []) ++ (ofL (dl 0) ++ acc)) := by
    intro ng acc k ha
    have e : ofL (dl 0) ++ acc = acc := ofL_nil acc
    rw [spec_Decimal.l0, if_pos rfl, e]
    cases ng with
    | true => rw [if_pos rfl, if_pos (by omega), if_pos rfl]; rfl
    | false => rw [if_neg (by decide), if_neg (by decide), ofL_nil]
  induction m with
  | zero =>
    intro u x ng acc k hx hu hm hb hk ha
    obtain ⟨k, rfl⟩ := ksucc hk
    have e : u = 0 := by simp at hu; omega
    subst e
    have e : x = 0 := by omega
    subst e
    exact zero ng acc k (by omega)
  | succ m ih =>
    intro u x ng acc k hx hu hm hb hk ha
    obtain ⟨k, rfl⟩ := ksucc (show m + 1 < k from hk)
    by_cases h0 : u = 0
    · subst h0
      have e : x = 0 := by omega
      subst e
      exact zero ng acc k (by omega)
    · have hx0 : x ≠ 0 := by omega
      rw [Nat.pow_succ] at hu
      have hd : u / 10 < 10 ^ m := by omega
      have h48 : u % 10 < 10 := by omega
      have hs : (ofL [UInt8.ofNat (48 + u % 10)]).size = 1 := ofL_size _
      have tail : ∀ y : Int, (y = ((u / 10 : Nat) : Int) ∨ y = -((u / 10 : Nat) : Int)) → (if (strOfNums [((48 + u % 10 : Nat) : Int)]).size + acc.size ≤ 9223372036854775807 then spec_Decimal.l0 k (wrap64 y) ng (strOfNums [((48 + u % 10 : Nat) : Int)] ++ acc) else none) = some (ofL (if ng = true then [45] else []) ++ (ofL (dl u) ++ acc)) := by
        intro y hy
        rw [str_one, hs, if_pos (by omega), w64 (by omega) (by omega), ih (u / 10) y ng _ k hy hd (by omega) (by omega) (by omega) (by rw [ByteArray.size_append, hs]; omega), dl_step u h0, ← ofL_app]
        congr 2
        apply ByteArray.ext
        simp [ofL]
      rw [spec_Decimal.l0, if_neg hx0]
      by_cases hneg : x < 0
      · have e : x = -(u : Int) := by omega
        have em : Int.tmod x 10 = -((u % 10 : Nat) : Int) := by rw [e, Int.neg_tmod, Int.tmod_eq_emod_of_nonneg (by omega)]; omega
        have ed : Int.tdiv x 10 = -((u / 10 : Nat) : Int) := by rw [e, Int.neg_tdiv, Int.tdiv_eq_ediv_of_nonneg (by omega)]; omega
        by_cases hz : u % 10 = 0
        · rw [if_neg (by rw [em]; omega), em]
          have e2 : (-((u % 10 : Nat) : Int)) = ((u % 10 : Nat) : Int) := by omega
          rw [e2, fig_eq _ h48]
          simp only [Option.bind_some]
          rw [ed]
          exact tail _ (.inr rfl)
        · rw [if_pos (by rw [em]; omega), em, show (-(-((u % 10 : Nat) : Int))) = ((u % 10 : Nat) : Int) by omega, w64 (by omega) (by omega), fig_eq _ h48]
          simp only [Option.bind_some]
          rw [ed]
          exact tail _ (.inr rfl)
      · have e : x = (u : Int) := by omega
        have em : Int.tmod x 10 = ((u % 10 : Nat) : Int) := by rw [e, Int.tmod_eq_emod_of_nonneg (by omega)]; omega
        have ed : Int.tdiv x 10 = ((u / 10 : Nat) : Int) := by rw [e, Int.tdiv_eq_ediv_of_nonneg (by omega)]; omega
        rw [if_neg (by rw [em]; omega), em, fig_eq _ h48]
        simp only [Option.bind_some]
        rw [ed]
        exact tail _ (.inl rfl)
/-- The reference's numeral. -/
theorem specDec_ev (n : Int) (h1 : -9223372036854775808 ≤ n) (h2 : n ≤ 9223372036854775807) (k : Nat) (hk : 20 < k) : spec_Decimal.f k n = some (ofL (Lib.itoa n)) := by
  unfold spec_Decimal.f
  by_cases h0 : n = 0
  · subst h0; rw [if_pos rfl]; simp [Lib.itoa, Lib.decDigits, ofL]
  · rw [if_neg h0]
    have he : (⟨#[]⟩ : ByteArray) = ofL [] := rfl
    rw [dec_l 19 n.natAbs n (decide (n < 0)) ⟨#[]⟩ k (by omega) (by omega) (by omega) (by omega) (by omega) (by simp [ByteArray.size]), he, ofL_app, ofL_app]
    unfold Lib.itoa dl
    rw [if_neg (show ¬ n.natAbs = 0 by omega)]
    by_cases hn : n < 0
    · rw [if_pos hn, if_pos (by simpa using hn)]; simp
    · rw [if_neg hn, if_neg (by simpa using hn), show n.toNat = n.natAbs by omega]; simp
theorem implDec_ev (n : Int) (h1 : -9223372036854775808 ≤ n) (h2 : n ≤ 9223372036854775807) : impl_Decimal.f n = some (ofL (Lib.itoa n)) := if_pos ⟨h1, h2⟩
theorem dec_len (n : Int) (h1 : -9223372036854775808 ≤ n) (h2 : n ≤ 9223372036854775807) : (Lib.itoa n).length ≤ 21 := Lib.itoa_length_le n h1 h2

/-! the words of the kinds -/
/-- The word of a kind, and how many numbers follow it. -/
def word (a : Int) : List UInt8 × Int :=
  if a = 1 then ([111, 114, 100, 101, 114], 1) else if a = 2 then ([116, 105, 99, 107], 0) else if a = 3 then ([114, 101, 103, 105, 115, 116, 101, 114], 2) else if a = 4 then ([99, 108, 97, 105, 109], 1) else if a = 5 then ([114, 101, 108, 101, 97, 115, 101], 1) else if a = 6 then ([109, 111, 118, 101], 2) else if a = 7 then ([97, 99, 107], 1) else ([99, 97, 110, 99, 101, 108], 0)
theorem word_spec (a : Int) (h : 1 ≤ a ∧ a ≤ 8) : spec_l30Word.f a = some (ofL (word a).1, (word a).2) ∧ impl_wordOf.f a = some (ofL (word a).1, (word a).2) := by
  obtain ⟨h1, h2⟩ := h
  have e : a = 1 ∨ a = 2 ∨ a = 3 ∨ a = 4 ∨ a = 5 ∨ a = 6 ∨ a = 7 ∨ a = 8 := by omega
  rcases e with rfl | rfl | rfl | rfl | rfl | rfl | rfl | rfl <;> exact ⟨rfl, rfl⟩
theorem word_none (a : Int) (h : ¬ (1 ≤ a ∧ a ≤ 8)) : spec_l30Word.f a = some (ofL [], 0) ∧ impl_wordOf.f a = some (ofL [], -1) := by
  unfold spec_l30Word.f impl_wordOf.f
  simp only [show ¬ a = 1 by omega, show ¬ a = 2 by omega, show ¬ a = 3 by omega, show ¬ a = 4 by omega, show ¬ a = 5 by omega, show ¬ a = 6 by omega, show ¬ a = 7 by omega, show ¬ a = 8 by omega, if_false]
  exact ⟨rfl, rfl⟩
theorem word_ok (a : Int) : (word a).1 ≠ [] ∧ (word a).1.length ≤ 8 ∧ 0 ≤ (word a).2 ∧ (word a).2 ≤ 2 := by
  unfold word
  repeat' split
  all_goals exact ⟨by decide, by decide, by decide, by decide⟩

/-! reading a numeral -/
theorem digitVal_fig (d : Nat) (h : d < 10) : Lib.digitVal (UInt8.ofNat (48 + d)) = some d := by
  have e : (UInt8.ofNat (48 + d)).toNat = 48 + d := by simp; omega
  unfold Lib.digitVal
  rw [e, if_pos (by omega)]
  congr 1
  omega
theorem decFrom_app (l : List UInt8) : ∀ (acc : Nat) (b : UInt8), Lib.decFrom acc (l ++ [b]) = (Lib.decFrom acc l).bind fun n => (Lib.digitVal b).map fun d => n * 10 + d := by
  induction l with
  | nil => intro acc b; simp only [List.nil_append, Lib.decFrom]; cases Lib.digitVal b <;> rfl
  | cons a r ih =>
    intro acc b
    simp only [List.cons_append, Lib.decFrom]
    cases Lib.digitVal a with
    | none => rfl
    | some d => exact ih _ b
theorem decFrom_digits (u : Nat) : Lib.decFrom 0 (Lib.decDigits u) = some u := by
  induction u using Nat.strongRecOn with
  | _ u ih =>
    by_cases h : u < 10
    · rw [Lib.decDigits, dif_pos h]
      simp only [Lib.decFrom]
      rw [digitVal_fig u h]
      simp
    · rw [Lib.decDigits, dif_neg h, decFrom_app, ih (u / 10) (by omega), digitVal_fig _ (by omega)]
      simp only [Option.bind_some, Option.map_some]
      congr 1
      omega
theorem nDigits_le : ∀ (k u : Nat), u < 10 ^ (k + 1) → Lib.nDigits u ≤ k + 1
  | 0, u, h => by rw [Lib.nDigits_small (by simpa using h)]; omega
  | k + 1, u, h => by
    by_cases h1 : u < 10
    · rw [Lib.nDigits_small h1]; omega
    · rw [Lib.nDigits_big h1]
      rw [Nat.pow_succ] at h
      have := nDigits_le k (u / 10) (by omega)
      omega
def numO (L : List UInt8) : Int × Bool := match Lib.decFrom 0 L with
  | some v => if v ≤ 1000000000 ∧ Lib.decDigits v = L then ((v : Int), true) else (0, false)
  | none => (0, false)
theorem numO_some (v : Nat) (h : v ≤ 1000000000) : numO (Lib.decDigits v) = ((v : Int), true) := by
  unfold numO; rw [decFrom_digits]; simp [h]
theorem numO_none (L : List UInt8) (h : ∀ v, v ≤ 1000000000 → Lib.decDigits v ≠ L) : numO L = (0, false) := by
  unfold numO
  split
  · rw [if_neg (fun t => h _ t.1 t.2)]
  · rfl
theorem atoi_digits (v : Nat) (h : v ≤ 1000000000) : Lib.atoiAll (Lib.decDigits v) = .ok (v : Int) := by
  have hl : (Lib.decDigits v).length ≤ 10 := by rw [Lib.decDigits_length]; exact nDigits_le 9 v (by omega)
  rw [Lib.atoiAll_short _ (by omega)]
  have hp : 1 ≤ (Lib.decDigits v).length := by rw [Lib.decDigits_length]; exact Lib.nDigits_pos v
  have hd := decFrom_digits v
  generalize Lib.decDigits v = L at hd hp ⊢
  cases L with
  | nil => simp at hp
  | cons b r =>
    obtain ⟨d, hb⟩ := Lib.digit_of_decFrom _ _ _ hd 0 b (by simp)
    have h1 : b ≠ 45 := by rintro rfl; simp [Lib.digitVal] at hb
    have h2 : b ≠ 43 := by rintro rfl; simp [Lib.digitVal] at hb
    simp only [Lib.atoi, beq_iff_eq, if_neg h1, if_neg h2, Lib.decNat, List.isEmpty_cons, hd]
    rfl
theorem implRD (s : ByteArray) (h : s.size ≤ 140737488355328) : impl_ReadDecimal.f s = some (numO s.data.toList) := by
  unfold impl_ReadDecimal.f impl_signed.f
  rw [if_pos h]
  by_cases hx : ∃ v, v ≤ 1000000000 ∧ Lib.decDigits v = s.data.toList
  · obtain ⟨v, hv, e⟩ := hx
    rw [← e, atoi_digits v hv, numO_some v hv]
    simp only
    rw [if_neg (by omega), if_neg (by omega), if_pos (by rw [ByteArray.toList_eq, ByteArray.toList_eq, Lib.itoa_nonneg, ← e])]
    rfl
  · have hn : numO s.data.toList = (0, false) := numO_none _ (fun v hv e => hx ⟨v, hv, e⟩)
    rw [hn]
    split
    · rename_i v _
      by_cases h1 : v < 0
      · rw [if_pos h1]; rfl
      · rw [if_neg h1]
        by_cases h2 : v > 1000000000
        · rw [if_pos h2]; rfl
        · rw [if_neg h2, if_neg]
          · rfl
          · intro e
            rw [ByteArray.toList_eq, ByteArray.toList_eq] at e
            obtain ⟨u, rfl⟩ : ∃ u : Nat, v = u := ⟨v.toNat, by omega⟩
            rw [Lib.itoa_nonneg] at e
            exact hx ⟨u, by omega, by simpa using e⟩
    · rfl
theorem list_len (s : ByteArray) : s.data.toList.length = s.size := by rw [Array.length_toList]; rfl
theorem bt_get (s : ByteArray) (i : Nat) (h : i < s.size) : bt s (i : Int) = ((s.data.toList[i]'(by rw [list_len]; exact h)).toNat : Int) := by
  unfold bt
  rw [dif_pos (by simpa using h)]
  simp [ByteArray.getElem_eq_getElem_data]
theorem specRD_l (s : ByteArray) (hs : s.size ≤ 10) : ∀ (d i acc k : Nat), i + d = s.size → acc < 10 ^ i → d + 22 < k →
    spec_ReadDecimal.l0 k s (acc : Int) (i : Int) = some (match Lib.decFrom acc (s.data.toList.drop i) with
      | some v => if v ≤ 1000000000 ∧ Lib.decDigits v = s.data.toList then ((v : Int), true) else (0, false)
      | none => (0, false)) := by
  have hz : s.data.toList.length = s.size := list_len s
  intro d
  induction d with
  | zero =>
    intro i acc k hi ha hk
    obtain ⟨k, rfl⟩ := ksucc hk
    have hp : 10 ^ i ≤ 10 ^ 10 := Nat.pow_le_pow_right (by omega) (by omega)
    rw [spec_ReadDecimal.l0, if_neg (by omega), List.drop_eq_nil_of_le (by omega)]
    simp only [Lib.decFrom]
    by_cases hv : acc ≤ 1000000000
    · rw [if_neg (by omega), specDec_ev _ (by omega) (by omega) _ (by omega)]
      simp only [Option.bind_some, ByteArray.toList_eq, ofL_list, Lib.itoa_nonneg]
      by_cases e : Lib.decDigits acc = s.data.toList
      · rw [if_pos e, if_pos ⟨hv, e⟩]
      · rw [if_neg e, if_neg (fun t => e t.2)]
    · rw [if_pos (by omega), if_neg (fun t => hv t.1)]
  | succ d ih =>
    intro i acc k hi ha hk
    obtain ⟨k, rfl⟩ := ksucc hk
    have hp : 10 ^ i ≤ 10 ^ 10 := Nat.pow_le_pow_right (by omega) (by omega)
    have hl : i < s.data.toList.length := by omega
    rw [spec_ReadDecimal.l0, if_pos (by omega), if_pos (by omega), bt_get s i (by omega), List.drop_eq_getElem_cons hl]
    simp only [Lib.decFrom]
    generalize s.data.toList[i] = c
    have hc : c.toNat < 256 := c.toNat_lt
    by_cases h1 : (c.toNat : Int) < 48
    · rw [if_pos h1]; unfold Lib.digitVal; rw [if_neg (by omega)]
    · rw [if_neg h1]
      by_cases h2 : (c.toNat : Int) > 57
      · rw [if_pos h2]; unfold Lib.digitVal; rw [if_neg (by omega)]
      · rw [if_neg h2]
        unfold Lib.digitVal
        rw [if_pos (by omega)]
        simp only
        have hq : 10 ^ (i + 1) = 10 ^ i * 10 := Nat.pow_succ ..
        have := ih (i + 1) (acc * 10 + (c.toNat - 48)) k (by omega) (by omega) (by omega)
        rw [← this, w64 (x := 10 * (acc : Int)) (by omega) (by omega), w64 (x := (c.toNat : Int)) (by omega) (by omega), w64 (x := 10 * (acc : Int) + _) (by omega) (by omega), w64 (by omega) (by omega), w64 (by omega) (by omega)]
        congr 1
        omega
theorem specRD (s : ByteArray) (k : Nat) (hk : 40 < k) : spec_ReadDecimal.f k s = some (numO s.data.toList) := by
  unfold spec_ReadDecimal.f
  by_cases h : (s.size : Int) > 10
  · rw [if_pos h, numO_none]
    intro v hv e
    have hl : (Lib.decDigits v).length ≤ 10 := by rw [Lib.decDigits_length]; exact nDigits_le 9 v (by omega)
    rw [e, list_len] at hl
    omega
  · rw [if_neg h]
    exact specRD_l s (by omega) s.size 0 0 k (by omega) (by omega) (by omega)

/-! the words of a line -/
theorem parts_eq (s : ByteArray) : ∀ k, (∀ a b c, spec_PartsOf.l0 k s a b c = impl_PartsOf.l0 k s a b c) ∧ (∀ a b c t, spec_PartsOf.j1 k s a b c t = impl_PartsOf.j1 k s a b c t) ∧ (∀ a b c t, spec_PartsOf.j2 k s a b c t = impl_PartsOf.j2 k s a b c t) := by
  intro k
  induction k with
  | zero => exact ⟨fun _ _ _ => rfl, fun _ _ _ _ => rfl, fun _ _ _ _ => rfl⟩
  | succ k ih =>
    obtain ⟨h0, h1, h2⟩ := ih
    refine ⟨fun a b c => ?_, fun a b c t => ?_, fun a b c t => ?_⟩
    · rw [spec_PartsOf.l0, impl_PartsOf.l0]; simp only [h1]
    · rw [spec_PartsOf.j1, impl_PartsOf.j1]; simp only [h2]
    · rw [spec_PartsOf.j2, impl_PartsOf.j2]; simp only [h0, GT.gt]
theorem partsF_eq (s : ByteArray) (k : Nat) : spec_PartsOf.f k s = impl_PartsOf.f k s := by
  unfold spec_PartsOf.f impl_PartsOf.f
  simp only [Option.bind_some, (parts_eq s k).1]
def partsOk (o : Option (List ByteArray × Bool)) : Prop := ∃ ps ok, o = some (ps, ok) ∧ ps.length ≤ 12 ∧ ∀ p ∈ ps, p.size ≤ 600
theorem partsOk_nil (b : Bool) : partsOk (some ([], b)) := ⟨[], b, rfl, by simp, by simp⟩
theorem parts_end (s : ByteArray) (hs : s.size ≤ 600) : ∀ (d i a k : Nat) (xs : List ByteArray), i + d = s.size + 1 → a ≤ i → xs.length ≤ i → (∀ p ∈ xs, p.size ≤ 600) → 3 * d < k → partsOk (impl_PartsOf.l0 k s xs (a : Int) (i : Int)) := by
  intro d
  induction d with
  | zero =>
    intro i a k xs hi ha hx hp hk
    obtain ⟨k, rfl⟩ := ksucc hk
    rw [impl_PartsOf.l0, if_neg (by omega)]
    by_cases h : (xs.length : Int) > 12
    · rw [if_pos h]; exact partsOk_nil _
    · rw [if_neg h]; exact ⟨xs, true, rfl, by omega, hp⟩
  | succ d ih =>
    intro i a k xs hi ha hx hp hk
    obtain ⟨k, rfl⟩ := ksucc (show 2 < k by omega)
    obtain ⟨k, rfl⟩ := ksucc (show 1 < k by omega)
    obtain ⟨k, rfl⟩ := ksucc (show 0 < k by omega)
    have e1 : wrap64 ((i : Int) + 1) = ((i + 1 : Nat) : Int) := wnat (by omega)
    have j2 : ∀ t, partsOk (impl_PartsOf.j2 (k + 1) s xs (a : Int) (i : Int) t) := by
      intro t
      rw [impl_PartsOf.j2, e1]
      cases t with
      | true => rw [if_pos rfl]; exact ih (i + 1) a k xs (by omega) (by omega) (by omega) hp (by omega)
      | false =>
        rw [if_neg (by decide)]
        by_cases hlt : (i : Int) > a
        · rw [if_pos hlt, if_pos (by omega), if_pos (by omega)]
          by_cases hle : (i : Int) ≤ s.size
          · rw [if_pos hle, if_pos (by omega)]
            refine ih (i + 1) (i + 1) k _ (by omega) (by omega) (by simp; omega) ?_ (by omega)
            intro p hm
            rcases List.mem_append.1 hm with h | h
            · exact hp p h
            · rw [List.mem_singleton.1 h, ByteArray.size_extract]
              omega
          · omega
        · rw [if_neg hlt]; exact ih (i + 1) (i + 1) k xs (by omega) (by omega) (by omega) hp (by omega)
    have j1 : ∀ t, partsOk (impl_PartsOf.j1 (k + 1 + 1) s xs (a : Int) (i : Int) t) := by
      intro t
      rw [impl_PartsOf.j1]
      cases t with
      | true => rw [if_pos rfl]; exact partsOk_nil _
      | false =>
        rw [if_neg (by decide)]
        by_cases h : (i : Int) < s.size
        · rw [if_pos h, if_pos (by omega)]; exact j2 _
        · rw [if_neg h]; exact j2 _
    rw [impl_PartsOf.l0, if_pos (by omega)]
    by_cases h : (i : Int) < s.size
    · rw [if_pos h, if_pos (by omega)]
      by_cases hb : bt s (i : Int) < 32
      · rw [if_pos hb]; exact j1 _
      · rw [if_neg hb]; exact j1 _
    · rw [if_neg h]; exact j1 _
theorem partsF_end (s : ByteArray) (k : Nat) (hk : 1810 < k) : partsOk (impl_PartsOf.f k s) := by
  unfold impl_PartsOf.f
  by_cases h : (s.size : Int) > 600
  · rw [if_pos h]; exact partsOk_nil _
  · rw [if_neg h]
    exact parts_end s (by omega) (s.size + 1) 0 0 k [] (by omega) (by omega) (by simp) (by simp) (by omega)

theorem nums_eq (k : Nat) (hk : 60 < k) (a n : Int) (h0 : 0 ≤ n) (h2 : n ≤ 2) (ps : List ByteArray) (hl : (ps.length : Int) = n + 1) (hp : ∀ p ∈ ps, p.size ≤ 600) :
    ∃ r, spec_ReadCmd.l1 k ps n 0 a 0 0 = some r ∧ (impl_ReadCmd.nums k (ps.drop 1) 0 0 0).bind (fun o => (match o with
    | some (x, y) => some (a, x, y, true)
    | none => some (0, 0, 0, false))) = some r := by
  obtain ⟨k, rfl⟩ := ksucc (show 59 < k by omega)
  obtain ⟨k, rfl⟩ := ksucc (show 58 < k by omega)
  obtain ⟨k, rfl⟩ := ksucc (show 57 < k by omega)
  have e01 : wrap64 (0 + 1) = 1 := w64 (by omega) (by omega)
  have e11 : wrap64 (1 + 1) = 2 := w64 (by omega) (by omega)
  have e2 : wrap64 2 = 2 := w64 (by omega) (by omega)
  have e3 : wrap64 3 = 3 := w64 (by omega) (by omega)
  have hn : n = 0 ∨ n = 1 ∨ n = 2 := by omega
  match ps, hl, hp with
  | [], hl, _ => simp at hl; omega
  | [p], hl, hp =>
    have e : n = 0 := by simp at hl; omega
    subst e
    refine ⟨(a, 0, 0, true), ?_, ?_⟩
    · rw [spec_ReadCmd.l1, if_neg (by omega)]
    · rw [impl_ReadCmd.nums, if_neg (by simp)]; rfl
  | [p, q], hl, hp =>
    have e : n = 1 := by simp at hl; omega
    subst e
    have hq := implRD q (by have := hp q (by simp); omega)
    have hs : ∀ k, 40 < k → spec_ReadDecimal.f k q = some (numO q.data.toList) := specRD q
    generalize numO q.data.toList = o at hq hs
    obtain ⟨v, b⟩ := o
    rw [spec_ReadCmd.l1, impl_ReadCmd.nums]
    simp only [e01, List.drop_succ_cons, List.drop_zero, List.length_cons, List.length_nil, rdOf]
    cases b with
    | true =>
      refine ⟨(a, v, 0, true), ?_, ?_⟩
      · simp [hs _ (show 40 < k + 1 + 1 by omega), spec_ReadCmd.l1]
      · simp [hq, impl_ReadCmd.nums]
    | false =>
      refine ⟨(0, 0, 0, false), ?_, ?_⟩
      · simp [hs _ (show 40 < k + 1 + 1 by omega)]
      · simp [hq]
  | [p, q, r], hl, hp =>
    have e : n = 2 := by simp at hl; omega
    subst e
    have hq := implRD q (by have := hp q (by simp); omega)
    have hs : ∀ k, 40 < k → spec_ReadDecimal.f k q = some (numO q.data.toList) := specRD q
    have hq2 := implRD r (by have := hp r (by simp); omega)
    have hs2 : ∀ k, 40 < k → spec_ReadDecimal.f k r = some (numO r.data.toList) := specRD r
    generalize numO q.data.toList = o at hq hs
    generalize numO r.data.toList = o2 at hq2 hs2
    obtain ⟨v, b⟩ := o
    obtain ⟨v2, b2⟩ := o2
    rw [spec_ReadCmd.l1, impl_ReadCmd.nums]
    simp only [e01, List.drop_succ_cons, List.drop_zero, List.length_cons, List.length_nil, rdOf]
    cases b with
    | true =>
      cases b2 with
      | true =>
        refine ⟨(a, v, v2, true), ?_, ?_⟩
        · simp [hs _ (show 40 < k + 1 + 1 by omega), hs2 _ (show 40 < k + 1 by omega), spec_ReadCmd.l1, e11, e2, e3, rdOf]
        · simp [hq, hq2, impl_ReadCmd.nums, rdOf]
      | false =>
        refine ⟨(0, 0, 0, false), ?_, ?_⟩
        · simp [hs _ (show 40 < k + 1 + 1 by omega), hs2 _ (show 40 < k + 1 by omega), spec_ReadCmd.l1, e11, e2, e3, rdOf]
        · simp [hq, hq2, impl_ReadCmd.nums, rdOf]
    | false =>
      refine ⟨(0, 0, 0, false), ?_, ?_⟩
      · simp [hs _ (show 40 < k + 1 + 1 by omega)]
      · simp [hq]
  | p :: q :: r :: s :: t, hl, hp => simp at hl; omega
theorem kinds_eq (ps : List ByteArray) (h1 : 1 ≤ ps.length) (hl : ps.length ≤ 12) (hp : ∀ p ∈ ps, p.size ≤ 600) : ∀ (d k i : Nat), i + d = 9 → 1 ≤ i → 2 * d + 62 < k →
    ∃ r, spec_ReadCmd.l0 k ps (i : Int) = some r ∧ impl_ReadCmd.l0 k ps (i : Int) = some r := by
  intro d
  induction d with
  | zero =>
    intro k i hi h hk
    obtain ⟨k, rfl⟩ := ksucc hk
    rw [spec_ReadCmd.l0, impl_ReadCmd.l0, if_neg (by omega), if_neg (by omega)]
    exact ⟨_, rfl, rfl⟩
  | succ d ih =>
    intro k i hi h hk
    obtain ⟨k, rfl⟩ := ksucc (show 2 < k by omega)
    obtain ⟨k, rfl⟩ := ksucc (show 1 < k by omega)
    obtain ⟨w1, w2⟩ := word_spec (i : Int) (by omega)
    obtain ⟨o1, o2, o3, o4⟩ := word_ok (i : Int)
    have nx := ih k (i + 1) (by omega) (by omega) (by omega)
    have e1 : wrap64 ((i : Int) + 1) = ((i + 1 : Nat) : Int) := wnat (by omega)
    have hi8 : (i : Int) ≤ 8 := by omega
    rw [spec_ReadCmd.l0, impl_ReadCmd.l0, if_pos hi8, if_pos hi8, w1, w2]
    simp only [Option.bind_some]
    have hpos : 0 < (ps.length : Int) := by omega
    simp only [if_pos hpos]
    have miss : ∃ r, spec_ReadCmd.j2 (k + 1) ps (i : Int) (word (i : Int)).2 true = some r ∧ impl_ReadCmd.j2 (k + 1) ps (i : Int) true = some r := by
      rw [spec_ReadCmd.j2, impl_ReadCmd.j2, if_pos rfl, if_pos rfl, e1]; exact nx
    by_cases he : (ofL (word (i : Int)).1).toList = (rdOf ByteArray.empty ps 0).toList
    · rw [if_pos he, if_pos he, w64 (by omega) (by omega)]
      by_cases hn : (ps.length : Int) = (word (i : Int)).2 + 1
      · have e : ((ps.length : Int) != (word (i : Int)).2 + 1) = false := by simp [hn]
        rw [e, spec_ReadCmd.j2, impl_ReadCmd.j2, if_neg (by decide), if_neg (by decide), if_pos h1]
        exact nums_eq k (by omega) _ _ o3 o4 ps hn hp
      · have e : ((ps.length : Int) != (word (i : Int)).2 + 1) = true := by simp [hn]
        rw [e]; exact miss
    · rw [if_neg he, if_neg he]; exact miss
theorem readCmd_eq (s : ByteArray) (k : Nat) (hk : 2000 < k) : ∃ r, spec_ReadCmd.f k s = some r ∧ impl_ReadCmd.f k s = some r := by
  obtain ⟨k, rfl⟩ := ksucc hk
  obtain ⟨ps, ok, e, hl, hp⟩ := partsF_end s (k + 1) (by omega)
  unfold spec_ReadCmd.f impl_ReadCmd.f
  rw [partsF_eq, e]
  simp only [Option.bind_some]
  have none1 : ∃ r, spec_ReadCmd.j0 (k + 1) ps true = some r ∧ impl_ReadCmd.j0 (k + 1) ps true = some r := by
    rw [spec_ReadCmd.j0, impl_ReadCmd.j0, if_pos rfl, if_pos rfl]; exact ⟨_, rfl, rfl⟩
  cases ok with
  | false => rw [if_neg (by decide), if_neg (by decide)]; exact none1
  | true =>
    rw [if_pos rfl, if_pos rfl]
    by_cases h : ps.length = 0
    · have e : ((ps.length : Int) == 0) = true := by simp [h]
      rw [e]; exact none1
    · have e : ((ps.length : Int) == 0) = false := by simp; intro t; subst t; simp at h
      rw [e, spec_ReadCmd.j0, impl_ReadCmd.j0, if_neg (by decide), if_neg (by decide)]
      exact kinds_eq ps (by omega) hl hp 8 k 1 rfl (by omega) (by omega)
theorem FnExactReadCmd : OpFnExactReadCmd.Pure := by
  intro y0 _
  refine ⟨2001, ?_⟩
  obtain ⟨r, h1, h2⟩ := readCmd_eq y0 2001 (by omega)
  unfold laws_FnExactReadCmd.f
  by_cases h : (y0.size : Int) > 1048576
  · rw [if_pos h]
  · rw [if_neg h, h1, h2]
    simp [laws_eqCmd.f]

end Go.Proofs.YtomchkdbhcakoaaDoor.Pure
