/- The law FnExactReadNums over numbers and lists alone: it answers true for every input; no condition beside the bounds of the kinds. -/
import Derived.Test.YtaddjeoncbmohaaDoorMFnExactReadNumsx
import Derived.Test.YtaddjeoncbmohaaDoorOpFnExactReadNums
import Derived.Lib.ItoaLen
import Derived.Lib.AtoiTie
import Derived.Lib.SplitLaws
namespace Go.Proofs.YtaddjeoncbmohaaDoor.Pure
open Go.RowKit Go.Proofs.YtaddjeoncbmohaaDoor.MFnExactReadNums Go.Proofs.YtaddjeoncbmohaaDoorW.PrintWords Go.Proofs.YtaddjeoncbmohaaDoorW.PrintLast Go.Proofs.YtaddjeoncbmohaaDoor
set_option linter.unusedVariables false
set_option linter.unusedSimpArgs false

theorem w64 {x : Int} (h1 : -9223372036854775808 ≤ x) (h2 : x ≤ 9223372036854775807) : wrap64 x = x := by unfold wrap64; omega
theorem wnat {i : Nat} (h : i < 4611686018427387904) : wrap64 ((i : Int) + 1) = ((i + 1 : Nat) : Int) := by unfold wrap64; omega
theorem ksucc {k d : Nat} (h : d < k) : ∃ m, k = m + 1 := ⟨k - 1, by omega⟩

theorem str_append (xs ys : List Int) : strOfNums (xs ++ ys) = strOfNums xs ++ strOfNums ys := by
  apply ByteArray.ext
  simp [strOfNums]
theorem str_bytesOf (s : ByteArray) : strOfNums (bytesOf s) = s := by
  apply ByteArray.ext
  simp only [strOfNums, bytesOf, List.map_map]
  have : s.data.toList.map ((fun n : Int => UInt8.ofNat n.toNat) ∘ fun b : UInt8 => (b.toNat : Int)) = s.data.toList := by
    rw [List.map_congr_left (g := id) (fun b _ => by simp), List.map_id]
  rw [this]

/-! decimal numerals: the reference's are the library's -/
def ofL (l : List UInt8) : ByteArray := ⟨l.toArray⟩
theorem ofL_app (a b : List UInt8) : ofL a ++ ofL b = ofL (a ++ b) := by apply ByteArray.ext; simp [ofL]
theorem ofL_size (a : List UInt8) : (ofL a).size = a.length := by simp [ofL, ByteArray.size]
theorem ofL_nil (x : ByteArray) : ofL [] ++ x = x := by apply ByteArray.ext; simp [ofL]
theorem ofL_list (a : List UInt8) : (ofL a).data.toList = a := by simp [ofL]
theorem ofL_of (x : ByteArray) : ofL x.data.toList = x := by apply ByteArray.ext; simp [ofL]
theorem fig_eq (d : Nat) (h : d < 10) : spec_l01Figure.f (d : Int) = some ((48 + d : Nat) : Int) := by
  unfold spec_l01Figure.f
  rw [if_pos (by omega), w64 (by omega) (by omega)]
  congr 1
  omega
theorem str_one (d : Nat) : strOfNums [((d : Nat) : Int)] = ofL [UInt8.ofNat d] := by simp [strOfNums, ofL]
def dl (u : Nat) : List UInt8 := if u = 0 then [] else Lib.decDigits u
theorem dl_step (u : Nat) (h : u ≠ 0) : dl u = dl (u / 10) ++ [UInt8.ofNat (48 + u % 10)] := by
  unfold dl
  rw [if_neg h]
  by_cases h10 : u < 10
  · rw [if_pos (show u / 10 = 0 by omega), Lib.decDigits, dif_pos h10, Nat.mod_eq_of_lt h10]; rfl
  · rw [if_neg (show ¬ u / 10 = 0 by omega), Lib.decDigits, dif_neg h10]
theorem dec_l : ∀ (m u : Nat) (x : Int) (ng : Bool) (acc : ByteArray) (k : Nat), (x = u ∨ x = -(u : Int)) → u < 10 ^ m → m ≤ 19 → u ≤ 9223372036854775808 → m < k → acc.size + m ≤ 1000 →
    spec_Decimal.l0 k x ng acc = some (ofL (if ng = true then [45] else []) ++ (ofL (dl u) ++ acc)) := by
  intro m
  have zero : ∀ (ng : Bool) (acc : ByteArray) (k : Nat), acc.size ≤ 1000 → spec_Decimal.l0 (k + 1) 0 ng acc = some (ofL (if ng = true then [45] else []) ++ (ofL (dl 0) ++ acc)) := by
    intro ng acc k ha
    have e : ofL (dl 0) ++ acc = acc := ofL_nil acc
    rw [spec_Decimal.l0, if_pos rfl, e]
    cases ng with
    | true => rw [if_pos rfl, if_pos (by omega), if_pos rfl]; rfl
    | false => rw [if_neg (by decide), if_neg (by decide), ofL_nil]
  induction m with
  | zero =>
    intro u x ng acc k hx hu hm hb hk ha
    obtain ⟨k, rfl⟩ := ksucc hk
    have e : u = 0 := by simp at hu; omega
    subst e
    have e : x = 0 := by omega
    subst e
    exact zero ng acc k (by omega)
  | succ m ih =>
    intro u x ng acc k hx hu hm hb hk ha
    obtain ⟨k, rfl⟩ := ksucc (show m + 1 < k from hk)
    by_cases h0 : u = 0
    · subst h0
      have e : x = 0 := by omega
      subst e
      exact zero ng acc k (by omega)
    · have hx0 : x ≠ 0 := by omega
      rw [Nat.pow_succ] at hu
      have hd : u / 10 < 10 ^ m := by omega
      have h48 : u % 10 < 10 := by omega
      have hs : (ofL [UInt8.ofNat (48 + u % 10)]).size = 1 := ofL_size _
      have tail : ∀ y : Int, (y = ((u / 10 : Nat) : Int) ∨ y = -((u / 10 : Nat) : Int)) → (if (strOfNums [((48 + u % 10 : Nat) : Int)]).size + acc.size ≤ 9223372036854775807 then spec_Decimal.l0 k (wrap64 y) ng (strOfNums [((48 + u % 10 : Nat) : Int)] ++ acc) else none) = some (ofL (if ng = true then [45] else []) ++ (ofL (dl u) ++ acc)) := by
        intro y hy
        rw [str_one, hs, if_pos (by omega), w64 (by omega) (by omega), ih (u / 10) y ng _ k hy hd (by omega) (by omega) (by omega) (by rw [ByteArray.size_append, hs]; omega), dl_step u h0, ← ofL_app]
        congr 2
        apply ByteArray.ext
        simp [ofL]
      rw [spec_Decimal.l0, if_neg hx0]
      by_cases hneg : x < 0
      · have e : x = -(u : Int) := by omega
        have em : Int.tmod x 10 = -((u % 10 : Nat) : Int) := by rw [e, Int.neg_tmod, Int.tmod_eq_emod_of_nonneg (by omega)]; omega
        have ed : Int.tdiv x 10 = -((u / 10 : Nat) : Int) := by rw [e, Int.neg_tdiv, Int.tdiv_eq_ediv_of_nonneg (by omega)]; omega
        by_cases hz : u % 10 = 0
        · rw [if_neg (by rw [em]; omega), em]
          have e2 : (-((u % 10 : Nat) : Int)) = ((u % 10 : Nat) : Int) := by omega
          rw [e2, fig_eq _ h48]
          simp only [Option.bind_some]
          rw [ed]
          exact tail _ (.inr rfl)
        · rw [if_pos (by rw [em]; omega), em, show (-(-((u % 10 : Nat) : Int))) = ((u % 10 : Nat) : Int) by omega, w64 (by omega) (by omega), fig_eq _ h48]
          simp only [Option.bind_some]
          rw [ed]
          exact tail _ (.inr rfl)
      · have e : x = (u : Int) := by omega
        have em : Int.tmod x 10 = ((u % 10 : Nat) : Int) := by rw [e, Int.tmod_eq_emod_of_nonneg (by omega)]; omega
        have ed : Int.tdiv x 10 = ((u / 10 : Nat) : Int) := by rw [e, Int.tdiv_eq_ediv_of_nonneg (by omega)]; omega
        rw [if_neg (by rw [em]; omega), em, fig_eq _ h48]
        simp only [Option.bind_some]
        rw [ed]
        exact tail _ (.inl rfl)
/-- The reference's numeral. -/
theorem specDec_ev (n : Int) (h1 : -9223372036854775808 ≤ n) (h2 : n ≤ 9223372036854775807) (k : Nat) (hk : 20 < k) : spec_Decimal.f k n = some (ofL (Lib.itoa n)) := by
  unfold spec_Decimal.f
  by_cases h0 : n = 0
  · subst h0; rw [if_pos rfl]; simp [Lib.itoa, Lib.decDigits, ofL]
  · rw [if_neg h0]
    have he : (⟨#[]⟩ : ByteArray) = ofL [] := rfl
    rw [dec_l 19 n.natAbs n (decide (n < 0)) ⟨#[]⟩ k (by omega) (by omega) (by omega) (by omega) (by omega) (by simp [ByteArray.size]), he, ofL_app, ofL_app]
    unfold Lib.itoa dl
    rw [if_neg (show ¬ n.natAbs = 0 by omega)]
    by_cases hn : n < 0
    · rw [if_pos hn, if_pos (by simpa using hn)]; simp
    · rw [if_neg hn, if_neg (by simpa using hn), show n.toNat = n.natAbs by omega]; simp
theorem implDec_ev (n : Int) (h1 : -9223372036854775808 ≤ n) (h2 : n ≤ 9223372036854775807) : impl_Decimal.f n = some (ofL (Lib.itoa n)) := if_pos ⟨h1, h2⟩
theorem dec_len (n : Int) (h1 : -9223372036854775808 ≤ n) (h2 : n ≤ 9223372036854775807) : (Lib.itoa n).length ≤ 21 := Lib.itoa_length_le n h1 h2

/-! reading a numeral -/
theorem digitVal_fig (d : Nat) (h : d < 10) : Lib.digitVal (UInt8.ofNat (48 + d)) = some d := by
  have e : (UInt8.ofNat (48 + d)).toNat = 48 + d := by simp; omega
  unfold Lib.digitVal
  rw [e, if_pos (by omega)]
  congr 1
  omega
theorem decFrom_app (l : List UInt8) : ∀ (acc : Nat) (b : UInt8), Lib.decFrom acc (l ++ [b]) = (Lib.decFrom acc l).bind fun n => (Lib.digitVal b).map fun d => n * 10 + d := by
  induction l with
  | nil => intro acc b; simp only [List.nil_append, Lib.decFrom]; cases Lib.digitVal b <;> rfl
  | cons a r ih =>
    intro acc b
    simp only [List.cons_append, Lib.decFrom]
    cases Lib.digitVal a with
    | none => rfl
    | some d => exact ih _ b
theorem decFrom_digits (u : Nat) : Lib.decFrom 0 (Lib.decDigits u) = some u := by
  induction u using Nat.strongRecOn with
  | _ u ih =>
    by_cases h : u < 10
    · rw [Lib.decDigits, dif_pos h]
      simp only [Lib.decFrom]
      rw [digitVal_fig u h]
      simp
    · rw [Lib.decDigits, dif_neg h, decFrom_app, ih (u / 10) (by omega), digitVal_fig _ (by omega)]
      simp only [Option.bind_some, Option.map_some]
      congr 1
      omega
theorem nDigits_le : ∀ (k u : Nat), u < 10 ^ (k + 1) → Lib.nDigits u ≤ k + 1
  | 0, u, h => by rw [Lib.nDigits_small (by simpa using h)]; omega
  | k + 1, u, h => by
    by_cases h1 : u < 10
    · rw [Lib.nDigits_small h1]; omega
    · rw [Lib.nDigits_big h1]
      rw [Nat.pow_succ] at h
      have := nDigits_le k (u / 10) (by omega)
      omega
def numO (L : List UInt8) : Int × Bool := match Lib.decFrom 0 L with
  | some v => if v ≤ 1000000000 ∧ Lib.decDigits v = L then ((v : Int), true) else (0, false)
  | none => (0, false)
theorem numO_some (v : Nat) (h : v ≤ 1000000000) : numO (Lib.decDigits v) = ((v : Int), true) := by
  unfold numO; rw [decFrom_digits]; simp [h]
theorem numO_none (L : List UInt8) (h : ∀ v, v ≤ 1000000000 → Lib.decDigits v ≠ L) : numO L = (0, false) := by
  unfold numO
  split
  · rw [if_neg (fun t => h _ t.1 t.2)]
  · rfl
theorem atoi_digits (v : Nat) (h : v ≤ 1000000000) : Lib.atoiAll (Lib.decDigits v) = .ok (v : Int) := by
  have hl : (Lib.decDigits v).length ≤ 10 := by rw [Lib.decDigits_length]; exact nDigits_le 9 v (by omega)
  rw [Lib.atoiAll_short _ (by omega)]
  have hp : 1 ≤ (Lib.decDigits v).length := by rw [Lib.decDigits_length]; exact Lib.nDigits_pos v
  have hd := decFrom_digits v
  generalize Lib.decDigits v = L at hd hp ⊢
  cases L with
  | nil => simp at hp
  | cons b r =>
    obtain ⟨d, hb⟩ := Lib.digit_of_decFrom _ _ _ hd 0 b (by simp)
    have h1 : b ≠ 45 := by rintro rfl; simp [Lib.digitVal] at hb
    have h2 : b ≠ 43 := by rintro rfl; simp [Lib.digitVal] at hb
    simp only [Lib.atoi, beq_iff_eq, if_neg h1, if_neg h2, Lib.decNat, List.isEmpty_cons, hd]
    rfl
theorem list_len (s : ByteArray) : s.data.toList.length = s.size := by rw [Array.length_toList]; rfl
theorem bt_get (s : ByteArray) (i : Nat) (h : i < s.size) : bt s (i : Int) = ((s.data.toList[i]'(by rw [list_len]; exact h)).toNat : Int) := by
  unfold bt
  rw [dif_pos (by simpa using h)]
  simp [ByteArray.getElem_eq_getElem_data]
theorem specRD_l (s : ByteArray) (hs : s.size ≤ 10) : ∀ (d i acc k : Nat), i + d = s.size → acc < 10 ^ i → d + 22 < k →
    spec_ReadDecimal.l0 k s (acc : Int) (i : Int) = some (match Lib.decFrom acc (s.data.toList.drop i) with
      | some v => if v ≤ 1000000000 ∧ Lib.decDigits v = s.data.toList then ((v : Int), true) else (0, false)
      | none => (0, false)) := by
  have hz : s.data.toList.length = s.size := list_len s
  intro d
  induction d with
  | zero =>
    intro i acc k hi ha hk
    obtain ⟨k, rfl⟩ := ksucc hk
    have hp : 10 ^ i ≤ 10 ^ 10 := Nat.pow_le_pow_right (by omega) (by omega)
    rw [spec_ReadDecimal.l0, if_neg (by omega), List.drop_eq_nil_of_le (by omega)]
    simp only [Lib.decFrom]
    by_cases hv : acc ≤ 1000000000
    · rw [if_neg (by omega), specDec_ev _ (by omega) (by omega) _ (by omega)]
      simp only [Option.bind_some, ByteArray.toList_eq, ofL_list, Lib.itoa_nonneg]
      by_cases e : Lib.decDigits acc = s.data.toList
      · rw [if_pos e, if_pos ⟨hv, e⟩]
      · rw [if_neg e, if_neg (fun t => e t.2)]
    · rw [if_pos (by omega), if_neg (fun t => hv t.1)]
  | succ d ih =>
    intro i acc k hi ha hk
    obtain ⟨k, rfl⟩ := ksucc hk
    have hp : 10 ^ i ≤ 10 ^ 10 := Nat.pow_le_pow_right (by omega) (by omega)
    have hl : i < s.data.toList.length := by omega
    rw [spec_ReadDecimal.l0, if_pos (by omega), if_pos (by omega), bt_get s i (by omega), List.drop_eq_getElem_cons hl]
    simp only [Lib.decFrom]
    generalize s.data.toList[i] = c
    have hc : c.toNat < 256 := c.toNat_lt
    by_cases h1 : (c.toNat : Int) < 48
    · rw [if_pos h1]; unfold Lib.digitVal; rw [if_neg (by omega)]
    · rw [if_neg h1]
      by_cases h2 : (c.toNat : Int) > 57
      · rw [if_pos h2]; unfold Lib.digitVal; rw [if_neg (by omega)]
      · rw [if_neg h2]
        unfold Lib.digitVal
        rw [if_pos (by omega)]
        simp only
        have hq : 10 ^ (i + 1) = 10 ^ i * 10 := Nat.pow_succ ..
        have := ih (i + 1) (acc * 10 + (c.toNat - 48)) k (by omega) (by omega) (by omega)
        rw [← this, w64 (x := 10 * (acc : Int)) (by omega) (by omega), w64 (x := (c.toNat : Int)) (by omega) (by omega), w64 (x := 10 * (acc : Int) + _) (by omega) (by omega), w64 (by omega) (by omega), w64 (by omega) (by omega)]
        congr 1
        omega
theorem specRD (s : ByteArray) (k : Nat) (hk : 40 < k) : spec_ReadDecimal.f k s = some (numO s.data.toList) := by
  unfold spec_ReadDecimal.f
  by_cases h : (s.size : Int) > 10
  · rw [if_pos h, numO_none]
    intro v hv e
    have hl : (Lib.decDigits v).length ≤ 10 := by rw [Lib.decDigits_length]; exact nDigits_le 9 v (by omega)
    rw [e, list_len] at hl
    omega
  · rw [if_neg h]
    exact specRD_l s (by omega) s.size 0 0 k (by omega) (by omega) (by omega)

/-! a numeral with a sign -/
def numS (L : List UInt8) : Int × Bool := match L with
  | [] => (0, false)
  | b :: r => if b = 45 then (if (numO r).2 = true ∧ (numO r).1 ≠ 0 then (-(numO r).1, true) else (0, false)) else numO (b :: r)
theorem digits_cons (v : Nat) : ∃ b r, Lib.decDigits v = b :: r ∧ b ≠ 45 ∧ b ≠ 43 := by
  have hp : 1 ≤ (Lib.decDigits v).length := by rw [Lib.decDigits_length]; exact Lib.nDigits_pos v
  have hd := decFrom_digits v
  generalize Lib.decDigits v = L at hd hp ⊢
  cases L with
  | nil => simp at hp
  | cons b r =>
    obtain ⟨d, hb⟩ := Lib.digit_of_decFrom _ _ _ hd 0 b (by simp)
    exact ⟨b, r, rfl, by rintro rfl; simp [Lib.digitVal] at hb, by rintro rfl; simp [Lib.digitVal] at hb⟩
theorem numO_inv {L : List UInt8} (h : (numO L).2 = true) : ∃ v : Nat, v ≤ 1000000000 ∧ L = Lib.decDigits v ∧ numO L = ((v : Int), true) := by
  by_cases hx : ∃ v, v ≤ 1000000000 ∧ Lib.decDigits v = L
  · obtain ⟨v, hv, rfl⟩ := hx; exact ⟨v, hv, rfl, numO_some v hv⟩
  · rw [numO_none L (fun v hv e => hx ⟨v, hv, e⟩)] at h; simp at h
theorem numO_bad {L : List UInt8} (h : (numO L).2 = false) : numO L = (0, false) := by
  by_cases hx : ∃ v, v ≤ 1000000000 ∧ Lib.decDigits v = L
  · obtain ⟨v, hv, rfl⟩ := hx; rw [numO_some v hv] at h; simp at h
  · exact numO_none L (fun v hv e => hx ⟨v, hv, e⟩)
theorem atoi_minus (v : Nat) (h : v ≤ 1000000000) : Lib.atoiAll (45 :: Lib.decDigits v) = .ok (-(v : Int)) := by
  have hl : (Lib.decDigits v).length ≤ 10 := by rw [Lib.decDigits_length]; exact nDigits_le 9 v (by omega)
  have hp : 1 ≤ (Lib.decDigits v).length := by rw [Lib.decDigits_length]; exact Lib.nDigits_pos v
  rw [Lib.atoiAll_short _ (by simp; omega)]
  have hd := decFrom_digits v
  have he : (Lib.decDigits v).isEmpty = false := by
    cases hq : Lib.decDigits v with
    | nil => rw [hq] at hp; simp at hp
    | cons a t => rfl
  simp only [Lib.atoi, beq_self_eq_true, if_true, Lib.decNat, he, hd]
  rfl
/-- A number in the bounds that is written as L. -/
def writ (L : List UInt8) (v : Int) : Prop := (-1000000000 ≤ v ∧ v ≤ 1000000000) ∧ Lib.itoa v = L
theorem writ_numS {L : List UInt8} {v : Int} (h : writ L v) : numS L = (v, true) ∧ Lib.atoiAll L = .ok v := by
  obtain ⟨⟨h1, h2⟩, rfl⟩ := h
  by_cases hn : v < 0
  · obtain ⟨u, rfl⟩ : ∃ u : Nat, v = -(u : Int) := ⟨v.natAbs, by omega⟩
    rw [Lib.itoa_neg u (by omega)]
    refine ⟨?_, atoi_minus u (by omega)⟩
    unfold numS
    simp only [if_true]
    rw [numO_some u (by omega), if_pos ⟨rfl, by show ((u : Nat) : Int) ≠ 0; omega⟩]
  · obtain ⟨u, rfl⟩ : ∃ u : Nat, v = u := ⟨v.toNat, by omega⟩
    rw [Lib.itoa_nonneg]
    refine ⟨?_, atoi_digits u (by omega)⟩
    obtain ⟨b, r, e, hb, _⟩ := digits_cons u
    have := numO_some u (by omega)
    rw [e] at this ⊢
    unfold numS
    simp only [if_neg hb]
    exact this
theorem numS_writ {L : List UInt8} (h : ¬ ∃ v, writ L v) : numS L = (0, false) := by
  unfold numS
  split
  · rfl
  · rename_i b r
    by_cases hb : b = 45
    · rw [if_pos hb]
      subst hb
      by_cases h2 : (numO r).2 = true ∧ (numO r).1 ≠ 0
      · exfalso
        obtain ⟨v, hv, e, e2⟩ := numO_inv h2.1
        rw [e2] at h2
        have hne : ((v : Nat) : Int) ≠ 0 := h2.2
        exact h ⟨-(v : Int), ⟨by omega, by omega⟩, by rw [Lib.itoa_neg v (by omega), e]⟩
      · rw [if_neg h2]
    · rw [if_neg hb]
      cases h2 : (numO (b :: r)).2 with
      | false => exact numO_bad h2
      | true =>
        exfalso
        obtain ⟨v, hv, e, e2⟩ := numO_inv h2
        exact h ⟨(v : Int), ⟨by omega, by omega⟩, by rw [Lib.itoa_nonneg, e]⟩
theorem numS_len {L : List UInt8} (h : (numS L).2 = true) : L.length ≤ 11 := by
  by_cases hw : ∃ v, writ L v
  · obtain ⟨v, ⟨h1, h2⟩, rfl⟩ := hw
    by_cases hn : v < 0
    · obtain ⟨u, rfl⟩ : ∃ u : Nat, v = -(u : Int) := ⟨v.natAbs, by omega⟩
      rw [Lib.itoa_neg u (by omega), List.length_cons, Lib.decDigits_length]
      have := nDigits_le 9 u (by omega)
      omega
    · obtain ⟨u, rfl⟩ : ∃ u : Nat, v = u := ⟨v.toNat, by omega⟩
      rw [Lib.itoa_nonneg, Lib.decDigits_length]
      have := nDigits_le 9 u (by omega)
      omega
  · rw [numS_writ hw] at h; simp at h
theorem implSigned (s : ByteArray) (h : s.size ≤ 140737488355328) : impl_signed.f s (-1000000000) 1000000000 = some (numS s.data.toList) := by
  unfold impl_signed.f
  rw [if_pos h]
  by_cases hx : ∃ v, writ s.data.toList v
  · obtain ⟨v, hv⟩ := hx
    obtain ⟨e1, e2⟩ := writ_numS hv
    rw [e1, e2]
    simp only
    obtain ⟨⟨h1, h2⟩, h3⟩ := hv
    rw [if_neg (by omega), if_neg (by omega), if_pos (by rw [ByteArray.toList_eq, ByteArray.toList_eq, h3])]
  · rw [numS_writ hx]
    split
    · rename_i v _
      by_cases h1 : v < -1000000000
      · rw [if_pos h1]
      · rw [if_neg h1]
        by_cases h2 : v > 1000000000
        · rw [if_pos h2]
        · rw [if_neg h2, if_neg]
          intro e
          rw [ByteArray.toList_eq, ByteArray.toList_eq] at e
          exact hx ⟨v, ⟨by omega, by omega⟩, by simpa using e⟩
    · rfl

/-! a text cut at each of its bytes of one kind -/
def cutA (c : UInt8) : List UInt8 → List UInt8 → List (List UInt8)
  | cur, [] => [cur]
  | cur, b :: r => if b = c then cur :: cutA c [] r else cutA c (cur ++ [b]) r
theorem index_eq (c : UInt8) (l : List UInt8) : Lib.index (c :: l) [c] = ((0 : Nat) : Int) := by rw [Lib.index]; simp [List.isPrefixOf]
theorem index_ne (b c : UInt8) (l : List UInt8) (h : b ≠ c) : Lib.index (b :: l) [c] = if Lib.index l [c] == -1 then -1 else Lib.index l [c] + 1 := by
  have hp : ([c] : List UInt8).isPrefixOf (b :: l) = false := by simp [List.isPrefixOf, Ne.symm h]
  rw [Lib.index, hp]; simp
theorem cut_split (c : UInt8) : ∀ (l cur : List UInt8), ∃ h t, Lib.splitK [c] 0 (Lib.count l [c]) l = h :: t ∧ cutA c cur l = (cur ++ h) :: t
  | [], cur => by rw [Lib.count_one]; exact ⟨[], [], rfl, by simp [cutA]⟩
  | b :: l, cur => by
    by_cases hb : b = c
    · subst hb
      rw [Lib.count_cons_eq, Nat.add_comm, Lib.splitK, index_eq, if_neg (by decide), cutA, if_pos rfl]
      obtain ⟨h, t, e1, e2⟩ := cut_split b l []
      refine ⟨[], cutA b [] l, ?_, by simp⟩
      simp only [List.nil_append] at e2
      rw [e2]
      simp only [List.length_cons, List.length_nil]
      simpa using e1
    · rw [Lib.count_cons_ne b c l hb, cutA, if_neg hb]
      obtain ⟨h, t, e1, e2⟩ := cut_split c l (cur ++ [b])
      rw [e2]
      rcases hn : Lib.count l [c] with _ | n
      · rw [hn] at e1
        simp only [Lib.splitK, List.cons.injEq] at e1 ⊢
        obtain ⟨rfl, rfl⟩ := e1
        exact ⟨_, _, ⟨rfl, rfl⟩, by simp⟩
      · have hm : Lib.index l [c] ≠ -1 := fun e => by rw [Lib.count_miss e] at hn; omega
        have hge := Lib.index_ge l [c]
        obtain ⟨j, hj⟩ : ∃ j : Nat, Lib.index l [c] = j := ⟨(Lib.index l [c]).toNat, by omega⟩
        have hi := index_ne b c l hb
        rw [if_neg (fun e => hm (beq_iff_eq.1 e)), hj] at hi
        rw [hn, Lib.splitK, if_neg (fun e => hm (beq_iff_eq.1 e)), hj] at e1
        rw [Lib.splitK, hi, if_neg (fun e => by have := beq_iff_eq.1 e; omega)]
        have e3 : ((j : Int)).toNat = j := by omega
        have e4 : ((j : Int) + 1).toNat = j + 1 := by omega
        simp only [e3, List.cons.injEq, Nat.add_zero] at e1
        simp only [e4, Nat.add_zero, List.length_cons, List.length_nil]
        obtain ⟨rfl, rfl⟩ := e1
        refine ⟨_, _, rfl, ?_⟩
        rw [List.take_succ_cons, show j + 1 + (0 + 1) = (j + 1) + 1 from rfl, List.drop_succ_cons]
        simp
theorem split_cut (s : ByteArray) (c : UInt8) : (Lib.splitB ⟨#[c]⟩ 0 (Lib.countB s ⟨#[c]⟩) s).map (·.data.toList) = cutA c [] s.data.toList := by
  rw [Lib.splitB_data]
  obtain ⟨h, t, e1, e2⟩ := cut_split c s.data.toList []
  rw [e2]
  exact e1
theorem cut_len (c : UInt8) : ∀ (l cur : List UInt8), ((cutA c cur l).map List.length).sum + (cutA c cur l).length = cur.length + l.length + 1
  | [], cur => by simp [cutA]
  | b :: l, cur => by
    rw [cutA]
    by_cases hb : b = c
    · rw [if_pos hb]
      have := cut_len c l []
      simp only [List.map_cons, List.sum_cons, List.length_cons, List.length_nil] at this ⊢
      omega
    · rw [if_neg hb]
      have := cut_len c l (cur ++ [b])
      simp only [List.length_append, List.length_cons, List.length_nil] at this ⊢
      omega
theorem le_sum {p : List UInt8} : ∀ {ps : List (List UInt8)}, p ∈ ps → p.length ≤ (ps.map List.length).sum
  | [], h => by simp at h
  | q :: t, h => by
    rcases List.mem_cons.1 h with rfl | h
    · simp
    · have := le_sum h; simp; omega
theorem cut_part (c : UInt8) (l : List UInt8) (p : List UInt8) (h : p ∈ cutA c [] l) : p.length ≤ l.length := by
  have h1 := cut_len c l []
  have h2 := le_sum h
  have h3 := List.length_pos_of_mem h
  simp at h1
  omega

/-! lists of numbers, compared -/
theorem rdN (xs : List Int) (i : Nat) (h : i < xs.length) : rd xs (i : Int) = xs[i] := by simp [rd, List.getD, h]
theorem eqIntS_l (xs : List Int) (hb : xs.length ≤ 16777216) : ∀ (d i k : Nat), i + d = xs.length → d < k → laws_eqIntS.l0 k xs xs (i : Int) = some true := by
  intro d
  induction d with
  | zero =>
    intro i k h hk
    obtain ⟨k, rfl⟩ := ksucc hk
    rw [laws_eqIntS.l0, if_neg (by omega)]
  | succ d ih =>
    intro i k h hk
    obtain ⟨k, rfl⟩ := ksucc hk
    rw [laws_eqIntS.l0, if_pos (by omega), if_pos (by omega), if_pos (by omega), if_pos rfl, wnat (by omega)]
    exact ih (i + 1) k (by omega) (by omega)
theorem eqIntS_ev (xs : List Int) (hb : xs.length ≤ 16777216) (k : Nat) (hk : xs.length < k) : laws_eqIntS.f k xs xs = some true := by
  unfold laws_eqIntS.f
  rw [if_pos rfl]
  exact eqIntS_l xs hb xs.length 0 k (by omega) hk

/-! lists of numbers, marked -/
def nums1 (n m : Nat) : List Int := (List.range' n m).map fun (i : Nat) => (i : Int)
theorem nums1_length (n m : Nat) : (nums1 n m).length = m := by simp [nums1]
theorem nums1_get (n m i : Nat) (h : i < (nums1 n m).length) : (nums1 n m)[i] = ((n + i : Nat) : Int) := by simp [nums1]
theorem nums1_snoc (n m : Nat) : nums1 n (m + 1) = nums1 n m ++ [((n + m : Nat) : Int)] := by simp [nums1, List.range'_concat]
theorem markIntS_l (xs : List Int) (n : Nat) (hn : n ≤ 1125899906842624) (hb : xs.length ≤ 16777216) : ∀ (d i k : Nat), i + d = xs.length → d < k →
    laws_markIntS.l0 k (nums1 n i ++ xs.drop i) ((n + i : Nat) : Int) (i : Int) = some (((n + xs.length : Nat) : Int), nums1 n xs.length) := by
  intro d
  induction d with
  | zero =>
    intro i k h hk
    obtain ⟨k, rfl⟩ := ksucc hk
    have e : i = xs.length := by omega
    subst e
    have hl : (nums1 n xs.length ++ xs.drop xs.length).length = xs.length := by simp [nums1_length]
    rw [laws_markIntS.l0, if_neg (by rw [hl]; omega)]
    simp
  | succ d ih =>
    intro i k h hk
    obtain ⟨k, rfl⟩ := ksucc hk
    have hi : i < xs.length := by omega
    have hml := nums1_length n i
    have hl : (nums1 n i ++ xs.drop i).length = xs.length := by simp [hml]; omega
    rw [laws_markIntS.l0, if_pos (by rw [hl]; omega), if_pos (by omega)]
    have e0 : (i : Int).toNat = i := by omega
    rw [e0, wnat (i := n + i) (by omega), wnat (i := i) (by omega), List.drop_eq_getElem_cons hi, List.set_append_right _ _ (by omega), hml, Nat.sub_self, List.set_cons_zero]
    have e1 : nums1 n i ++ ((n + i : Nat) : Int) :: xs.drop (i + 1) = nums1 n (i + 1) ++ xs.drop (i + 1) := by rw [nums1_snoc, List.append_assoc]; rfl
    rw [e1]
    exact ih (i + 1) k (by omega) (by omega)
theorem markIntS_ev (xs : List Int) (n : Nat) (hn : n ≤ 1125899906842624) (hb : xs.length ≤ 16777216) (k : Nat) (hk : xs.length < k) : laws_markIntS.f k xs (n : Int) = some (((n + xs.length : Nat) : Int), nums1 n xs.length) := by
  have := markIntS_l xs n hn hb xs.length 0 k (by omega) hk
  simpa [laws_markIntS.f, nums1] using this

/-! ints, held -/
theorem heldIntS_l (n m : Nat) (hn : n ≤ 1125899906842624) (hb : m ≤ 16777216) : ∀ (d i k : Nat), i + d = m → d < k →
    laws_heldIntS.l0 k (nums1 n m) ((n + i : Nat) : Int) (i : Int) = some ((n + m : Nat) : Int) := by
  intro d
  have hml := nums1_length n m
  induction d with
  | zero =>
    intro i k h hk
    obtain ⟨k, rfl⟩ := ksucc hk
    have e : i = m := by omega
    subst e
    rw [laws_heldIntS.l0, if_neg (by omega)]
  | succ d ih =>
    intro i k h hk
    obtain ⟨k, rfl⟩ := ksucc hk
    rw [laws_heldIntS.l0, if_pos (by omega), if_pos (by omega), rdN _ i (by omega), nums1_get, if_pos rfl, wnat (i := n + i) (by omega), wnat (i := i) (by omega)]
    exact ih (i + 1) k (by omega) (by omega)
theorem heldIntS_ev (n m : Nat) (hn : n ≤ 1125899906842624) (hb : m ≤ 16777216) (k : Nat) (hk : m < k) : laws_heldIntS.f k (nums1 n m) (n : Int) = some ((n + m : Nat) : Int) := by
  have := heldIntS_l n m hn hb m 0 k (by omega) hk
  simpa [laws_heldIntS.f] using this

def specG : List (List UInt8) → List Int → List Int × Bool
  | [], out => if 2000 < out.length then ([], false) else (out, true)
  | p :: t, out => if (numS p).2 = true then specG t (out ++ [(numS p).1]) else ([], false)
def implG : List (List UInt8) → List Int → List Int × Bool
  | [], out => (out, true)
  | p :: t, out => if (numS p).2 = true then (if out.length = 2000 then ([], false) else implG t (out ++ [(numS p).1])) else ([], false)
theorem specG_big : ∀ (ps : List (List UInt8)) (out : List Int), 2000 < out.length → specG ps out = ([], false)
  | [], out, h => if_pos h
  | p :: t, out, h => by
    unfold specG
    by_cases hp : (numS p).2 = true
    · rw [if_pos hp]; exact specG_big t _ (by simp; omega)
    · rw [if_neg hp]
theorem specG_implG : ∀ (ps : List (List UInt8)) (out : List Int), out.length ≤ 2000 → specG ps out = implG ps out
  | [], out, h => if_neg (by omega)
  | p :: t, out, h => by
    unfold specG implG
    by_cases hp : (numS p).2 = true
    · rw [if_pos hp, if_pos hp]
      by_cases h2 : out.length = 2000
      · rw [if_pos h2]; exact specG_big t _ (by simp; omega)
      · rw [if_neg h2]; exact specG_implG t _ (by simp; omega)
    · rw [if_neg hp, if_neg hp]
theorem implG_small : ∀ (ps : List (List UInt8)) (out : List Int), out.length ≤ 2000 → implG ps out = ([], false) ∨ (out.length + ps.length ≤ 2000 ∧ (ps.map List.length).sum ≤ 11 * ps.length)
  | [], out, h => .inr ⟨by simpa using h, by simp⟩
  | p :: t, out, h => by
    unfold implG
    by_cases hp : (numS p).2 = true
    · rw [if_pos hp]
      by_cases h2 : out.length = 2000
      · rw [if_pos h2]; exact .inl rfl
      · rw [if_neg h2]
        rcases implG_small t (out ++ [(numS p).1]) (by simp; omega) with e | ⟨e1, e2⟩
        · exact .inl e
        · have := numS_len hp
          refine .inr ⟨by simp at e1 ⊢; omega, by simp; omega⟩
    · rw [if_neg hp]; exact .inl rfl
theorem implG_len : ∀ (ps : List (List UInt8)) (out : List Int), out.length ≤ 2000 → (implG ps out).1.length ≤ 2000
  | [], out, h => h
  | p :: t, out, h => by
    unfold implG
    by_cases hp : (numS p).2 = true
    · rw [if_pos hp]
      by_cases h2 : out.length = 2000
      · rw [if_pos h2]; simp
      · rw [if_neg h2]; exact implG_len t _ (by simp; omega)
    · rw [if_neg hp]; simp
theorem implN_l (ps : List ByteArray) (hp : ∀ p ∈ ps, p.size ≤ 140737488355328) (hb : ps.length ≤ 4294967296) : ∀ (d j k : Nat) (out : List Int), j + d = ps.length → out.length ≤ 2000 → d < k →
    impl_ReadNums.l0 k out ps (ps.length : Int) (j : Int) = some (implG ((ps.drop j).map (·.data.toList)) out) := by
  intro d
  induction d with
  | zero =>
    intro j k out hj ho hk
    obtain ⟨k, rfl⟩ := ksucc hk
    rw [impl_ReadNums.l0, if_neg (by omega), List.drop_eq_nil_of_le (by omega)]
    rfl
  | succ d ih =>
    intro j k out hj ho hk
    obtain ⟨k, rfl⟩ := ksucc hk
    have hl : j < ps.length := by omega
    have e : rdOf ByteArray.empty ps (j : Int) = ps[j] := by simp [rdOf, List.getD, hl]
    rw [impl_ReadNums.l0, if_pos (by omega), if_pos (by omega), if_pos (by omega), e, implSigned _ (hp _ (List.getElem_mem hl)), List.drop_eq_getElem_cons hl]
    simp only [Option.bind_some, List.map_cons, implG]
    by_cases h1 : (numS ps[j].data.toList).2 = true
    · rw [if_pos h1, if_pos h1]
      by_cases h2 : out.length = 2000
      · rw [if_pos (by omega), if_pos h2]
      · rw [if_neg (by omega), if_neg h2, if_pos (by omega), wnat (by omega)]
        exact ih (j + 1) k _ (by omega) (by simp; omega) (by omega)
    · rw [if_neg h1, if_neg h1]
theorem implN (s : ByteArray) (hs : s.size ≤ 1048576) (k : Nat) (hk : 1048580 < k) : impl_ReadNums.f k s = some (if s.size = 0 then ([], true) else implG (cutA 44 [] s.data.toList) []) := by
  unfold impl_ReadNums.f
  have hz := list_len s
  by_cases h0 : s.size = 0
  · rw [if_pos h0, if_pos (by rw [ByteArray.toList_eq]; exact List.eq_nil_of_length_eq_zero (by omega))]
  · have hne : ¬ s.toList = ([] : List UInt8) := by rw [ByteArray.toList_eq]; intro e; rw [e] at hz; simp at hz; omega
    rw [if_neg h0, if_neg hne]
    unfold strings_Split.f
    have hone : (⟨#[44]⟩ : ByteArray).size = 1 := rfl
    rw [if_pos ⟨by omega, by rw [hone]; omega⟩]
    simp only [Option.bind_some]
    have hc := split_cut s 44
    have hl := Lib.splitB_all ⟨#[44]⟩ (by rw [hone]; omega) 0 _ s rfl
    have hle := Lib.countB_le ⟨#[44]⟩ (by rw [hone]; omega) s.size s (Nat.le_refl _)
    generalize Lib.splitB ⟨#[44]⟩ 0 (Lib.countB s ⟨#[44]⟩) s = ps at hc hl ⊢
    have hp : ∀ p ∈ ps, p.size ≤ 140737488355328 := by
      intro p hm
      have := cut_part 44 s.data.toList p.data.toList (hc ▸ List.mem_map_of_mem (f := (·.data.toList)) hm)
      rw [list_len, hz] at this
      omega
    have := implN_l ps hp (by omega) ps.length 0 k [] (by omega) (by simp) (by omega)
    rw [List.drop_zero, hc] at this
    exact this
theorem numS_spec (cur : ByteArray) (k : Nat) (hk : 60 < k) (s : ByteArray) (out : List Int) (i : Nat) (hi : i ≤ 1048576) (ho : out.length ≤ i) :
    (if (cur.size : Int) > 0 then (if 0 < (cur.size : Int) then (spec_ReadNums.j2 (k + 3) s out (i : Int) cur ((bt cur 0) == 45)) else none) else (spec_ReadNums.j2 (k + 3) s out (i : Int) cur false)) =
      if (numS cur.data.toList).2 = true then spec_ReadNums.l0 k s (out ++ [(numS cur.data.toList).1]) ((i + 1 : Nat) : Int) ((i + 1 : Nat) : Int) else some ([], false) := by
  have hz := list_len cur
  have e1 : wrap64 ((i : Int) + 1) = ((i + 1 : Nat) : Int) := wnat (by omega)
  have plain : ∀ (x : ByteArray), numS cur.data.toList = numO x.data.toList → spec_ReadNums.j3 (k + 2) s out (i : Int) x false = if (numS cur.data.toList).2 = true then spec_ReadNums.l0 k s (out ++ [(numS cur.data.toList).1]) ((i + 1 : Nat) : Int) ((i + 1 : Nat) : Int) else some ([], false) := by
    intro x hx
    rw [spec_ReadNums.j3, specRD x (k + 1) (by omega), hx]
    simp only [Option.bind_some]
    by_cases h2 : (numO x.data.toList).2 = true
    · rw [if_pos h2, if_pos h2, if_neg (by decide), spec_ReadNums.j4, if_neg (by decide), if_neg (by decide), if_pos (by omega), e1]
    · rw [if_neg h2, if_neg h2, spec_ReadNums.j4, if_pos rfl]
  match hd : cur.data.toList with
  | [] =>
    rw [hd] at hz
    have h0 : ¬ (cur.size : Int) > 0 := by simp at hz; omega
    rw [if_neg h0, spec_ReadNums.j2, if_neg (by decide), plain cur (by rw [hd, numO_none [] (fun v _ e => by obtain ⟨b, r, e2, _⟩ := digits_cons v; rw [e2] at e; simp at e)]; rfl), hd]
  | b :: r =>
    rw [hd] at hz
    have h0 : (cur.size : Int) > 0 := by simp at hz; omega
    rw [if_pos h0, if_pos h0]
    have hb : bt cur 0 = (b.toNat : Int) := by
      have := bt_get cur 0 (by omega)
      simpa [hd] using this
    rw [hb, spec_ReadNums.j2]
    by_cases h45 : b = 45
    · subst h45
      have e45 : (((45 : UInt8).toNat : Int) == 45) = true := by decide
      rw [e45, if_pos rfl, if_pos (by omega), spec_ReadNums.j3, specRD _ (k + 1) (by omega)]
      have hx : (cur.extract 1 cur.size).data.toList = r := by rw [Lib.extract_to_end, hd]; rfl
      rw [hx]
      simp only [Option.bind_some, numS, if_true]
      cases h2 : (numO r).2 with
      | false =>
        simp only [Bool.false_eq_true, if_false, false_and]
        rw [spec_ReadNums.j4, if_pos rfl]
      | true =>
        obtain ⟨v, hv, _, e2⟩ := numO_inv h2
        rw [e2]
        by_cases h3 : v = 0
        · subst h3
          simp only [if_true, true_and, ne_eq]
          rw [if_neg (by simp)]
          rw [show (((0 : Nat) : Int) == 0) = true from rfl, spec_ReadNums.j4, if_pos rfl]
        · have e3 : (((v : Nat) : Int) == 0) = false := by simp [h3]
          simp only [if_true, true_and, ne_eq]
          rw [if_pos (show ¬ ((v : Nat) : Int) = 0 by omega), e3, spec_ReadNums.j4, if_neg (by decide), if_pos rfl, if_pos (by omega), w64 (by omega) (by omega), e1]
          exact (if_pos rfl).symm
    · have e45 : ((b.toNat : Int) == 45) = false := by
        simp only [beq_eq_false_iff_ne]
        intro e
        apply h45
        apply UInt8.toNat_inj.1
        show b.toNat = 45
        omega
      rw [e45, if_neg (by decide), plain cur (by rw [hd]; unfold numS; simp only [if_neg h45]), hd]
theorem specN_l (s : ByteArray) (hs : s.size ≤ 24000) : ∀ (d i b k : Nat) (out : List Int), i + d = s.size → b ≤ i → out.length ≤ i → 5 * (d + 1) + 80 < k →
    spec_ReadNums.l0 k s out (b : Int) (i : Int) = some (specG (cutA 44 ((s.data.toList.drop b).take (i - b)) (s.data.toList.drop i)) out) := by
  have hz := list_len s
  have part : ∀ (i b k : Nat) (out : List Int), i ≤ s.size → b ≤ i → out.length ≤ i → 70 < k → spec_ReadNums.j1 (k + 4) s out (b : Int) (i : Int) false =
      if (numS ((s.data.toList.drop b).take (i - b))).2 = true then spec_ReadNums.l0 k s (out ++ [(numS ((s.data.toList.drop b).take (i - b))).1]) ((i + 1 : Nat) : Int) ((i + 1 : Nat) : Int) else some ([], false) := by
    intro i b k out hi hb ho hk
    rw [spec_ReadNums.j1, if_neg (by decide), if_pos (by omega), if_pos (by omega), if_pos (by omega), numS_spec _ k (by omega) s out i (by omega) ho, Lib.extract_data]
    rfl
  intro d
  induction d with
  | zero =>
    intro i b k out hi hb ho hk
    obtain ⟨k, rfl⟩ : ∃ m, k = m + 5 := ⟨k - 5, by omega⟩
    have hdn : s.data.toList.drop i = [] := List.drop_eq_nil_of_le (by omega)
    rw [spec_ReadNums.l0, if_pos (by omega), if_neg (by omega), part i b k out (by omega) hb ho (by omega), hdn]
    simp only [cutA, specG]
    obtain ⟨k, rfl⟩ := ksucc (show 0 < k by omega)
    by_cases h : (numS ((s.data.toList.drop b).take (i - b))).2 = true
    · rw [if_pos h, if_pos h, spec_ReadNums.l0, if_neg (by omega)]
      by_cases h2 : 2000 < (out ++ [(numS ((s.data.toList.drop b).take (i - b))).1]).length
      · rw [if_pos h2, if_pos (by omega)]
      · rw [if_neg h2, if_neg (by omega)]
    · rw [if_neg h, if_neg h]
  | succ d ih =>
    intro i b k out hi hb ho hk
    obtain ⟨k, rfl⟩ : ∃ m, k = m + 5 := ⟨k - 5, by omega⟩
    have hl : i < s.data.toList.length := by omega
    rw [spec_ReadNums.l0, if_pos (by omega), if_pos (by omega), if_pos (by omega), bt_get s i (by omega), List.drop_eq_getElem_cons hl]
    by_cases hc : s.data.toList[i] = 44
    · have e : (((s.data.toList[i]).toNat : Int) != 44) = false := by rw [hc]; decide
      rw [e, part i b k out (by omega) hb ho (by omega), cutA, if_pos hc]
      simp only [specG]
      by_cases h : (numS ((s.data.toList.drop b).take (i - b))).2 = true
      · rw [if_pos h, if_pos h, ih (i + 1) (i + 1) k _ (by omega) (by omega) (by simp; omega) (by omega)]
        simp
      · rw [if_neg h, if_neg h]
    · have e : (((s.data.toList[i]).toNat : Int) != 44) = true := by
        simp only [bne_iff_ne, ne_eq]
        intro e
        apply hc
        apply UInt8.toNat_inj.1
        show (s.data.toList[i]).toNat = 44
        omega
      rw [e, spec_ReadNums.j1, if_pos rfl, wnat (by omega), ih (i + 1) b (k + 3) out (by omega) (by omega) (by omega) (by omega), cutA, if_neg hc]
      congr 3
      rw [show i + 1 - b = (i - b) + 1 by omega, List.take_succ_eq_append_getElem (by rw [List.length_drop]; omega)]
      congr 1
      simp only [List.getElem_drop, List.cons.injEq, and_true]
      congr 1
      omega
theorem specN (s : ByteArray) (hs : s.size ≤ 1048576) (k : Nat) (hk : 200000 < k) : spec_ReadNums.f k s = some (if s.size = 0 then ([], true) else implG (cutA 44 [] s.data.toList) []) := by
  unfold spec_ReadNums.f
  simp only [Option.bind_some]
  by_cases h0 : s.size = 0
  · rw [if_pos h0, if_pos (by omega)]
  · rw [if_neg h0, if_neg (by omega)]
    by_cases h : (s.size : Int) > 24000
    · rw [if_pos h]
      rcases implG_small (cutA 44 [] s.data.toList) [] (by simp) with e | ⟨e1, e2⟩
      · rw [e]
      · have := cut_len 44 s.data.toList []
        rw [list_len] at this
        simp at e1 this
        omega
    · rw [if_neg h]
      have := specN_l s (by omega) s.size 0 0 k [] (by omega) (by omega) (by simp) (by omega)
      rw [← specG_implG _ _ (by simp)]
      simpa using this
theorem FnExactReadNums : OpFnExactReadNums.Pure := by
  intro s _
  obtain ⟨K, hK⟩ : ∃ K, 2000000 < K := ⟨2000001, by omega⟩
  refine ⟨K + 2, ?_⟩
  unfold laws_FnExactReadNums.f
  by_cases h : (s.size : Int) > 1048576
  · rw [if_pos h]
  rw [if_neg h]
  obtain ⟨r, hr⟩ : ∃ r, r = (if s.size = 0 then (([] : List Int), true) else implG (cutA 44 [] s.data.toList) []) := ⟨_, rfl⟩
  have hl : r.1.length ≤ 2000 := by
    rw [hr]
    split
    · simp
    · exact implG_len _ _ (by simp)
  have a1 := specN s (by omega) (K + 2) (by omega)
  have a2 := implN s (by omega) (K + 2) (by omega)
  have a3 := implN s (by omega) (K + 1) (by omega)
  rw [← hr] at a1 a2 a3
  rw [a1, a2]
  simp only [Option.bind_some]
  rw [eqIntS_ev r.1 (by omega) _ (by omega)]
  simp only [Option.bind_some, if_true]
  rw [bne_self_eq_false, laws_FnExactReadNums.j0, if_neg (by decide)]
  have mk := markIntS_ev r.1 1 (by omega) (by omega) (K + 1) (by omega)
  rw [show ((1 : Nat) : Int) = 1 from rfl] at mk
  have hd := heldIntS_ev 1 r.1.length (by omega) (by omega) (K + 1) (by omega)
  have hd2 := heldIntS_ev 1 r.1.length (by omega) (by omega) K (by omega)
  rw [show ((1 : Nat) : Int) = 1 from rfl] at hd hd2
  rw [mk]
  simp only [Option.bind_some]
  rw [hd]
  simp only [Option.bind_some]
  rw [if_neg (by omega), if_pos trivial, a3]
  simp only [Option.bind_some]
  rw [eqIntS_ev r.1 (by omega) _ (by omega)]
  simp only [Option.bind_some, if_true]
  rw [bne_self_eq_false, laws_FnExactReadNums.j1, if_neg (by decide), hd2]
  simp only [Option.bind_some]
  rw [if_neg (by omega), if_pos trivial]

end Go.Proofs.YtaddjeoncbmohaaDoor.Pure
