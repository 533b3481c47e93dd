/- The law FnExactNumsText over numbers and lists alone: it answers true for every input; no condition beside the bounds of the kinds. -/
import Derived.Test.YtomchkdbhcakoaaDoorMFnExactNumsTextx
import Derived.Test.YtomchkdbhcakoaaDoorOpFnExactNumsText
import Derived.Lib.ItoaLen
namespace Go.Proofs.YtomchkdbhcakoaaDoor.Pure
open Go.RowKit Go.Proofs.YtomchkdbhcakoaaDoor.MFnExactNumsText Go.Proofs.YtomchkdbhcakoaaDoorW.PrintWords Go.Proofs.YtomchkdbhcakoaaDoorW.PrintLast Go.Proofs.YtomchkdbhcakoaaDoor
set_option linter.unusedVariables false
set_option linter.unusedSimpArgs false

theorem w64 {x : Int} (h1 : -9223372036854775808 ≤ x) (h2 : x ≤ 9223372036854775807) : wrap64 x = x := by unfold wrap64; omega
theorem wnat {i : Nat} (h : i < 4611686018427387904) : wrap64 ((i : Int) + 1) = ((i + 1 : Nat) : Int) := by unfold wrap64; omega
theorem ksucc {k d : Nat} (h : d < k) : ∃ m, k = m + 1 := ⟨k - 1, by omega⟩

theorem fill_step {α β : Type} (f : α → β) (z : β) (xs : List α) (i d : Nat) (h : i + (d + 1) = xs.length) (hi : i < xs.length) :
    ((xs.take i).map f ++ List.replicate (d + 1) z).set i (f xs[i]) = (xs.take (i + 1)).map f ++ List.replicate d z := by
  have hl : ((xs.take i).map f).length = i := by simp; omega
  rw [List.replicate_succ, List.set_append_right _ _ (by omega), hl, Nat.sub_self, List.set_cons_zero, List.take_succ_eq_append_getElem hi, List.map_append]
  simp

/-! lists of numbers, made of what came in -/
theorem rdT (xs : List Int) (i : Nat) (h : i < xs.length) : rd xs (i : Int) = xs[i] := by simp [rd, List.getD, h]
theorem toIntS_l (xs : List Int) (hb : xs.length ≤ 1048576) : ∀ (d i k : Nat), i + d = xs.length → d < k →
    laws_toIntS.l0 k xs ((xs.take i).map id ++ List.replicate d 0) (i : Int) = some xs := by
  intro d
  induction d with
  | zero =>
    intro i k h hk
    obtain ⟨k, rfl⟩ := ksucc hk
    simp only [laws_toIntS.l0]
    rw [if_neg (by omega), List.take_of_length_le (by omega)]
    simp
  | succ d ih =>
    intro i k h hk
    obtain ⟨k, rfl⟩ := ksucc hk
    have hi : i < xs.length := by omega
    simp only [laws_toIntS.l0]
    rw [if_pos (by omega), if_pos (by omega), if_pos (by simp; omega), rdT xs i hi, wnat (by omega)]
    have e : (i : Int).toNat = i := by simp
    rw [e]
    exact (congrArg (fun z => laws_toIntS.l0 k xs z ((i + 1 : Nat) : Int)) (fill_step id 0 xs i d h hi)).trans (ih (i + 1) k (by omega) (by omega))
theorem toIntS_ev (xs : List Int) (hb : xs.length ≤ 1048576) (k : Nat) (hk : xs.length < k) : laws_toIntS.f k xs = some xs := by
  unfold laws_toIntS.f
  rw [if_pos (by omega), if_pos (by omega)]
  have := toIntS_l xs hb xs.length 0 k (by omega) hk
  simpa using this

/-! lists of numbers, compared -/
theorem rdN (xs : List Int) (i : Nat) (h : i < xs.length) : rd xs (i : Int) = xs[i] := by simp [rd, List.getD, h]
theorem eqIntS_l (xs : List Int) (hb : xs.length ≤ 16777216) : ∀ (d i k : Nat), i + d = xs.length → d < k → laws_eqIntS.l0 k xs xs (i : Int) = some true := by
  intro d
  induction d with
  | zero =>
    intro i k h hk
    obtain ⟨k, rfl⟩ := ksucc hk
    rw [laws_eqIntS.l0, if_neg (by omega)]
  | succ d ih =>
    intro i k h hk
    obtain ⟨k, rfl⟩ := ksucc hk
    rw [laws_eqIntS.l0, if_pos (by omega), if_pos (by omega), if_pos (by omega), if_pos rfl, wnat (by omega)]
    exact ih (i + 1) k (by omega) (by omega)
theorem eqIntS_ev (xs : List Int) (hb : xs.length ≤ 16777216) (k : Nat) (hk : xs.length < k) : laws_eqIntS.f k xs xs = some true := by
  unfold laws_eqIntS.f
  rw [if_pos rfl]
  exact eqIntS_l xs hb xs.length 0 k (by omega) hk

theorem str_append (xs ys : List Int) : strOfNums (xs ++ ys) = strOfNums xs ++ strOfNums ys := by
  apply ByteArray.ext
  simp [strOfNums]
theorem str_bytesOf (s : ByteArray) : strOfNums (bytesOf s) = s := by
  apply ByteArray.ext
  simp only [strOfNums, bytesOf, List.map_map]
  have : s.data.toList.map ((fun n : Int => UInt8.ofNat n.toNat) ∘ fun b : UInt8 => (b.toNat : Int)) = s.data.toList := by
    rw [List.map_congr_left (g := id) (fun b _ => by simp), List.map_id]
  rw [this]

/-! decimal numerals: the reference's are the library's -/
def ofL (l : List UInt8) : ByteArray := ⟨l.toArray⟩
theorem ofL_app (a b : List UInt8) : ofL a ++ ofL b = ofL (a ++ b) := by apply ByteArray.ext; simp [ofL]
theorem ofL_size (a : List UInt8) : (ofL a).size = a.length := by simp [ofL, ByteArray.size]
theorem ofL_nil (x : ByteArray) : ofL [] ++ x = x := by apply ByteArray.ext; simp [ofL]
theorem ofL_list (a : List UInt8) : (ofL a).data.toList = a := by simp [ofL]
theorem ofL_of (x : ByteArray) : ofL x.data.toList = x := by apply ByteArray.ext; simp [ofL]
theorem fig_eq (d : Nat) (h : d < 10) : spec_l01Figure.f (d : Int) = some ((48 + d : Nat) : Int) := by
  unfold spec_l01Figure.f
  rw [if_pos (by omega), w64 (by omega) (by omega)]
  congr 1
  omega
theorem str_one (d : Nat) : strOfNums [((d : Nat) : Int)] = ofL [UInt8.ofNat d] := by simp [strOfNums, ofL]
def dl (u : Nat) : List UInt8 := if u = 0 then [] else Lib.decDigits u
theorem dl_step (u : Nat) (h : u ≠ 0) : dl u = dl (u / 10) ++ [UInt8.ofNat (48 + u % 10)] := by
  unfold dl
  rw [if_neg h]
  by_cases h10 : u < 10
  · rw [if_pos (show u / 10 = 0 by omega), Lib.decDigits, dif_pos h10, Nat.mod_eq_of_lt h10]; rfl
  · rw [if_neg (show ¬ u / 10 = 0 by omega), Lib.decDigits, dif_neg h10]
theorem dec_l : ∀ (m u : Nat) (x : Int) (ng : Bool) (acc : ByteArray) (k : Nat), (x = u ∨ x = -(u : Int)) → u < 10 ^ m → m ≤ 19 → u ≤ 9223372036854775808 → m < k → acc.size + m ≤ 1000 →
    spec_Decimal.l0 k x ng acc = some (ofL (if ng = true then [45] else []) ++ (ofL (dl u) ++ acc)) := by
  intro m
  have zero : ∀ (ng : Bool) (acc : ByteArray) (k : Nat), acc.size ≤ 1000 → spec_Decimal.l0 (k + 1) 0 ng acc = some (ofL (if ng = true then [45] else []) ++ (ofL (dl 0) ++ acc)) := by
    intro ng acc k ha
    have e : ofL (dl 0) ++ acc = acc := ofL_nil acc
    rw [spec_Decimal.l0, if_pos rfl, e]
    cases ng with
    | true => rw [if_pos rfl, if_pos (by omega), if_pos rfl]; rfl
    | false => rw [if_neg (by decide), if_neg (by decide), ofL_nil]
  induction m with
  | zero =>
    intro u x ng acc k hx hu hm hb hk ha
    obtain ⟨k, rfl⟩ := ksucc hk
    have e : u = 0 := by simp at hu; omega
    subst e
    have e : x = 0 := by omega
    subst e
    exact zero ng acc k (by omega)
  | succ m ih =>
    intro u x ng acc k hx hu hm hb hk ha
    obtain ⟨k, rfl⟩ := ksucc (show m + 1 < k from hk)
    by_cases h0 : u = 0
    · subst h0
      have e : x = 0 := by omega
      subst e
      exact zero ng acc k (by omega)
    · have hx0 : x ≠ 0 := by omega
      rw [Nat.pow_succ] at hu
      have hd : u / 10 < 10 ^ m := by omega
      have h48 : u % 10 < 10 := by omega
      have hs : (ofL [UInt8.ofNat (48 + u % 10)]).size = 1 := ofL_size _
      have tail : ∀ y : Int, (y = ((u / 10 : Nat) : Int) ∨ y = -((u / 10 : Nat) : Int)) → (if (strOfNums [((48 + u % 10 : Nat) : Int)]).size + acc.size ≤ 9223372036854775807 then spec_Decimal.l0 k (wrap64 y) ng (strOfNums [((48 + u % 10 : Nat) : Int)] ++ acc) else none) = some (ofL (if ng = true then [45] else []) ++ (ofL (dl u) ++ acc)) := by
        intro y hy
        rw [str_one, hs, if_pos (by omega), w64 (by omega) (by omega), ih (u / 10) y ng _ k hy hd (by omega) (by omega) (by omega) (by rw [ByteArray.size_append, hs]; omega), dl_step u h0, ← ofL_app]
        congr 2
        apply ByteArray.ext
        simp [ofL]
      rw [spec_Decimal.l0, if_neg hx0]
      by_cases hneg : x < 0
      · have e : x = -(u : Int) := by omega
        have em : Int.tmod x 10 = -((u % 10 : Nat) : Int) := by rw [e, Int.neg_tmod, Int.tmod_eq_emod_of_nonneg (by omega)]; omega
        have ed : Int.tdiv x 10 = -((u / 10 : Nat) : Int) := by rw [e, Int.neg_tdiv, Int.tdiv_eq_ediv_of_nonneg (by omega)]; omega
        by_cases hz : u % 10 = 0
        · rw [if_neg (by rw [em]; omega), em]
          have e2 : (-((u % 10 : Nat) : Int)) = ((u % 10 : Nat) : Int) := by omega
          rw [e2, fig_eq _ h48]
          simp only [Option.bind_some]
          rw [ed]
          exact tail _ (.inr rfl)
        · rw [if_pos (by rw [em]; omega), em, show (-(-((u % 10 : Nat) : Int))) = ((u % 10 : Nat) : Int) by omega, w64 (by omega) (by omega), fig_eq _ h48]
          simp only [Option.bind_some]
          rw [ed]
          exact tail _ (.inr rfl)
      · have e : x = (u : Int) := by omega
        have em : Int.tmod x 10 = ((u % 10 : Nat) : Int) := by rw [e, Int.tmod_eq_emod_of_nonneg (by omega)]; omega
        have ed : Int.tdiv x 10 = ((u / 10 : Nat) : Int) := by rw [e, Int.tdiv_eq_ediv_of_nonneg (by omega)]; omega
        rw [if_neg (by rw [em]; omega), em, fig_eq _ h48]
        simp only [Option.bind_some]
        rw [ed]
        exact tail _ (.inl rfl)
/-- The reference's numeral. -/
theorem specDec_ev (n : Int) (h1 : -9223372036854775808 ≤ n) (h2 : n ≤ 9223372036854775807) (k : Nat) (hk : 20 < k) : spec_Decimal.f k n = some (ofL (Lib.itoa n)) := by
  unfold spec_Decimal.f
  by_cases h0 : n = 0
  · subst h0; rw [if_pos rfl]; simp [Lib.itoa, Lib.decDigits, ofL]
  · rw [if_neg h0]
    have he : (⟨#[]⟩ : ByteArray) = ofL [] := rfl
    rw [dec_l 19 n.natAbs n (decide (n < 0)) ⟨#[]⟩ k (by omega) (by omega) (by omega) (by omega) (by omega) (by simp [ByteArray.size]), he, ofL_app, ofL_app]
    unfold Lib.itoa dl
    rw [if_neg (show ¬ n.natAbs = 0 by omega)]
    by_cases hn : n < 0
    · rw [if_pos hn, if_pos (by simpa using hn)]; simp
    · rw [if_neg hn, if_neg (by simpa using hn), show n.toNat = n.natAbs by omega]; simp
theorem implDec_ev (n : Int) (h1 : -9223372036854775808 ≤ n) (h2 : n ≤ 9223372036854775807) : impl_Decimal.f n = some (ofL (Lib.itoa n)) := if_pos ⟨h1, h2⟩
theorem dec_len (n : Int) (h1 : -9223372036854775808 ≤ n) (h2 : n ≤ 9223372036854775807) : (Lib.itoa n).length ≤ 21 := Lib.itoa_length_le n h1 h2

/-- The text of numbers. -/
def numsL (l : List Int) : List UInt8 := Lib.join (l.map Lib.itoa) [44]
def inR (x : Int) : Prop := -1000000000 ≤ x ∧ x ≤ 1000000000
instance (x : Int) : Decidable (inR x) := by unfold inR; infer_instance
theorem l01In_eq (a b c : Int) : spec_l01In.f a b c = some (decide (b ≤ a ∧ a ≤ c)) := by
  unfold spec_l01In.f
  by_cases h : a ≥ b
  · rw [if_pos h]; simp [show b ≤ a from h]
  · rw [if_neg h]; simp [show ¬ b ≤ a from h]
def numsOf (l : List UInt8) : List Int := l.map fun b => (b.toNat : Int)
theorem bytesOf_ofL (l : List UInt8) : bytesOf (ofL l) = numsOf l := by simp [bytesOf, ofL, numsOf]
theorem strOf_numsOf (l : List UInt8) : strOfNums (numsOf l) = ofL l := by rw [← bytesOf_ofL, str_bytesOf]
theorem numsOf_len (l : List UInt8) : (numsOf l).length = l.length := by simp [numsOf]
/-- What both do: the text, or nothing where a number is too great. -/
def outcome (l : List Int) : ByteArray × Bool := if ∀ x ∈ l, inR x then (ofL (numsL l), true) else (⟨#[]⟩, false)
theorem join_snoc (xs : List (List UInt8)) (x : List UInt8) (h : xs ≠ []) : Lib.join (xs ++ [x]) [44] = Lib.join xs [44] ++ 44 :: x := by
  cases xs with
  | nil => exact absurd rfl h
  | cons a r =>
    rw [List.cons_append, Lib.join_cons, Lib.join_cons]
    simp [Lib.joinTail]
theorem numsL_snoc (xs : List Int) (x : Int) : numsL (xs ++ [x]) = (if xs = [] then [] else numsL xs ++ [44]) ++ Lib.itoa x := by
  unfold numsL
  by_cases h : xs = []
  · subst h; rw [if_pos rfl]; simp [Lib.join_one]
  · rw [if_neg h, List.map_append, List.map_cons, List.map_nil, join_snoc _ _ (by simpa using h)]; simp
theorem itoa_len (x : Int) (h : inR x) : (Lib.itoa x).length ≤ 21 := Lib.itoa_length_le x (by have := h.1; omega) (by have := h.2; omega)
theorem flat_len (l : List (List UInt8)) (h : ∀ x ∈ l, x.length ≤ 22) : l.flatten.length ≤ 22 * l.length := by
  induction l with
  | nil => simp
  | cons a r ih =>
    have h1 := h a (by simp)
    have h2 := ih (fun x hx => h x (by simp [hx]))
    simp only [List.flatten_cons, List.length_append, List.length_cons]
    omega
theorem numsL_len (xs : List Int) (h : ∀ x ∈ xs, inR x) : (numsL xs).length ≤ 22 * xs.length := by
  cases xs with
  | nil => simp [numsL, Lib.join_nil]
  | cons x r =>
    have h1 := itoa_len x (h x (by simp))
    unfold numsL
    rw [List.map_cons, Lib.join_cons]
    have h2 := flat_len ((r.map Lib.itoa).map ([44] ++ ·)) (by
      intro y hy
      obtain ⟨z, hz, rfl⟩ := List.mem_map.1 hy
      obtain ⟨v, hv, rfl⟩ := List.mem_map.1 hz
      have := itoa_len v (h v (by simp [hv]))
      simp; omega)
    simp only [Lib.joinTail, List.length_append, List.length_cons, List.length_map] at h2 ⊢
    omega
theorem spec_l (xs : List Int) (hb : xs.length ≤ 2000) : ∀ (d i k : Nat), i + d = xs.length → d + 30 < k → (∀ x ∈ xs.take i, inR x) →
    spec_NumsText.l0 k xs (numsOf (numsL (xs.take i))) (i : Int) = some (outcome xs) := by
  intro d
  induction d with
  | zero =>
    intro i k h hk hall
    obtain ⟨k, rfl⟩ := ksucc (show 0 < k by omega)
    rw [List.take_of_length_le (by omega)] at hall ⊢
    rw [spec_NumsText.l0, if_neg (by omega), strOf_numsOf, outcome, if_pos hall]
  | succ d ih =>
    intro i k h hk hall
    obtain ⟨k, rfl⟩ := ksucc (show 0 < k by omega)
    have hi : i < xs.length := by omega
    rw [spec_NumsText.l0, if_pos (by omega), if_pos (by omega), rdT xs i hi, l01In_eq, Option.bind_some]
    have ht : xs.take (i + 1) = xs.take i ++ [xs[i]] := List.take_succ_eq_append_getElem hi
    by_cases hr : inR xs[i]
    · rw [if_pos (by rw [decide_eq_true_iff]; exact hr)]
      have hlen := numsL_len (xs.take i) hall
      have hl2 : (xs.take i).length ≤ 2000 := by simp; omega
      have hlen2 : (numsL (xs.take i)).length ≤ 44000 := by omega
      have hit := itoa_len xs[i] hr
      have hall2 : ∀ x ∈ xs.take (i + 1), inR x := by
        intro x hx
        rw [ht] at hx
        rcases List.mem_append.1 hx with h1 | h1
        · exact hall x h1
        · rw [List.mem_singleton.1 h1]; exact hr
      have next := ih (i + 1) k (by omega) (by omega) hall2
      have hdec := specDec_ev xs[i] (by have := hr.1; omega) (by have := hr.2; omega) k (by omega)
      rw [ht, numsL_snoc] at next
      by_cases h0 : i = 0
      · subst h0
        rw [if_neg (by omega), hdec]
        simp only [Option.bind_some, ofL_size, numsOf_len]
        rw [if_pos (by omega), wnat (by omega), bytesOf_ofL]
        simp only [List.take_zero, numsL, List.map_nil, Lib.join_nil] at next ⊢
        rw [if_pos trivial] at next
        simpa [numsOf] using next
      · have hne : xs.take i ≠ [] := by intro e; have := congrArg List.length e; rw [List.length_take, List.length_nil] at this; omega
        rw [if_neg hne] at next
        rw [if_pos (by omega), if_pos (by rw [numsOf_len]; omega), hdec]
        simp only [Option.bind_some, ofL_size, List.length_append, numsOf_len, List.length_cons, List.length_nil]
        rw [if_pos (by omega), wnat (by omega), bytesOf_ofL]
        have e : numsOf (numsL (xs.take i)) ++ [44] ++ numsOf (Lib.itoa xs[i]) = numsOf (numsL (xs.take i) ++ [44] ++ Lib.itoa xs[i]) := by simp [numsOf]
        rw [e]
        exact next
    · rw [if_neg (by rw [decide_eq_true_iff]; exact hr), outcome, if_neg (fun g => hr (g _ (List.getElem_mem hi)))]
theorem impl_l (xs : List Int) (hb : xs.length ≤ 2000) : ∀ (d i k : Nat), i + d = xs.length → d < k → (∀ x ∈ xs.take i, inR x) →
    impl_NumsText.l0 k ((xs.take i).map fun x => ofL (Lib.itoa x)) xs (xs.length : Int) (i : Int) = some (outcome xs) := by
  intro d
  induction d with
  | zero =>
    intro i k h hk hall
    obtain ⟨k, rfl⟩ := ksucc (show 0 < k by omega)
    rw [List.take_of_length_le (by omega)] at hall ⊢
    have e : ((xs.map fun x => ofL (Lib.itoa x)).map fun b : ByteArray => b.data.toList) = xs.map Lib.itoa := by rw [List.map_map]; exact List.map_congr_left fun x _ => ofL_list _
    have hlen := numsL_len xs hall
    rw [impl_NumsText.l0, if_neg (by omega)]
    unfold strings_Join.f
    rw [e]
    have e2 : Lib.join (xs.map Lib.itoa) (⟨#[44]⟩ : ByteArray).data.toList = numsL xs := rfl
    rw [e2, if_pos ⟨by omega, by simp; omega⟩, Option.bind_some, outcome, if_pos hall]
    rfl
  | succ d ih =>
    intro i k h hk hall
    obtain ⟨k, rfl⟩ := ksucc (show 0 < k by omega)
    have hi : i < xs.length := by omega
    rw [impl_NumsText.l0, if_pos (by omega), if_pos (by omega), if_pos (by omega), rdT xs i hi]
    by_cases hr : inR xs[i]
    · have h1 := hr.1
      have h2 := hr.2
      have ht : xs.take (i + 1) = xs.take i ++ [xs[i]] := List.take_succ_eq_append_getElem hi
      have next := ih (i + 1) k (by omega) (by omega) (by
        intro x hx
        rw [ht] at hx
        rcases List.mem_append.1 hx with h1 | h1
        · exact hall x h1
        · rw [List.mem_singleton.1 h1]; exact hr)
      rw [ht, List.map_append, List.map_cons, List.map_nil] at next
      rw [if_neg (by omega), if_neg (by omega), implDec_ev xs[i] (by omega) (by omega), Option.bind_some, if_pos (by simp; omega), wnat (by omega)]
      exact next
    · have ho : outcome xs = (⟨#[]⟩, false) := if_neg (fun g => hr (g _ (List.getElem_mem hi)))
      rw [ho]
      by_cases h1 : xs[i] < -1000000000
      · rw [if_pos h1]
      · rw [if_neg h1, if_pos (by unfold inR at hr; omega)]
theorem both (xs : List Int) (k : Nat) (hk : 3000 < k) : ∃ o, spec_NumsText.f k xs = some o ∧ impl_NumsText.f k xs = some o := by
  unfold spec_NumsText.f impl_NumsText.f
  by_cases h : (xs.length : Int) > 2000
  · rw [if_pos h, if_pos h]; exact ⟨_, rfl, rfl⟩
  · rw [if_neg h, if_neg h]
    exact ⟨_, by simpa [numsL, Lib.join_nil, numsOf] using spec_l xs (by omega) xs.length 0 k (by omega) (by omega) (by simp), by simpa using impl_l xs (by omega) xs.length 0 k (by omega) (by omega) (by simp)⟩
theorem FnExactNumsText : OpFnExactNumsText.Pure := by
  intro xs hx
  obtain ⟨K, hK⟩ : ∃ K, 1100000 < K := ⟨1100001, by omega⟩
  refine ⟨K, ?_⟩
  unfold laws_FnExactNumsText.f
  by_cases h : (xs.length : Int) > 1048576
  · rw [if_pos h]
  · rw [if_neg h]
    obtain ⟨o, h1, h2⟩ := both xs K (by omega)
    have hl : xs.length ≤ 1048576 := by omega
    rw [toIntS_ev xs hl K (by omega)]
    simp only [Option.bind_some]
    rw [h1]
    simp only [Option.bind_some]
    rw [h2]
    simp only [Option.bind_some]
    obtain ⟨K, rfl⟩ := ksucc (show 1 < K by omega)
    rw [if_pos trivial, laws_FnExactNumsText.j0, if_neg (by simp), toIntS_ev xs hl K (by omega)]
    simp only [Option.bind_some]
    rw [eqIntS_ev xs (by omega) K (by omega)]
    simp

end Go.Proofs.YtomchkdbhcakoaaDoor.Pure
