/- The law FnExactCmdText over numbers and lists alone: it answers true for every input; no condition beside the bounds of the kinds. -/
import Derived.Test.YtpkffapjplebgaaDoorMFnExactCmdTextx
import Derived.Test.YtpkffapjplebgaaDoorOpFnExactCmdText
import Derived.Lib.ItoaLen
namespace Go.Proofs.YtpkffapjplebgaaDoor.Pure
open Go.RowKit Go.Proofs.YtpkffapjplebgaaDoor.MFnExactCmdText Go.Proofs.YtpkffapjplebgaaDoorW.PrintWords Go.Proofs.YtpkffapjplebgaaDoorW.PrintLast Go.Proofs.YtpkffapjplebgaaDoor
set_option linter.unusedVariables false
set_option linter.unusedSimpArgs false

theorem w64 {x : Int} (h1 : -9223372036854775808 ≤ x) (h2 : x ≤ 9223372036854775807) : wrap64 x = x := by unfold wrap64; omega
theorem wnat {i : Nat} (h : i < 4611686018427387904) : wrap64 ((i : Int) + 1) = ((i + 1 : Nat) : Int) := by unfold wrap64; omega
theorem ksucc {k d : Nat} (h : d < k) : ∃ m, k = m + 1 := ⟨k - 1, by omega⟩

theorem str_append (xs ys : List Int) : strOfNums (xs ++ ys) = strOfNums xs ++ strOfNums ys := by
  apply ByteArray.ext
  simp [strOfNums]
theorem str_bytesOf (s : ByteArray) : strOfNums (bytesOf s) = s := by
  apply ByteArray.ext
  simp only [strOfNums, bytesOf, List.map_map]
  have : s.data.toList.map ((fun n : Int => UInt8.ofNat n.toNat) ∘ fun b : UInt8 => (b.toNat : Int)) = s.data.toList := by
    rw [List.map_congr_left (g := id) (fun b _ => by simp), List.map_id]
  rw [this]

/-! decimal numerals: the reference's are the library's -/
def ofL (l : List UInt8) : ByteArray := ⟨l.toArray⟩
theorem ofL_app (a b : List UInt8) : ofL a ++ ofL b = ofL (a ++ b) := by apply ByteArray.ext; simp [ofL]
theorem ofL_size (a : List UInt8) : (ofL a).size = a.length := by simp [ofL, ByteArray.size]
theorem ofL_nil (x : ByteArray) : ofL [] ++ x = x := by apply ByteArray.ext; simp [ofL]
theorem ofL_list (a : List UInt8) : (ofL a).data.toList = a := by simp [ofL]
theorem ofL_of (x : ByteArray) : ofL x.data.toList = x := by apply ByteArray.ext; simp [ofL]
theorem fig_eq (d : Nat) (h : d < 10) : spec_l01Figure.f (d : Int) = some ((48 + d : Nat) : Int) := by
  unfold spec_l01Figure.f
  rw [if_pos (by omega), w64 (by omega) (by omega)]
  congr 1
  omega
theorem str_one (d : Nat) : strOfNums [((d : Nat) : Int)] = ofL [UInt8.ofNat d] := by simp [strOfNums, ofL]
def dl (u : Nat) : List UInt8 := if u = 0 then [] else Lib.decDigits u
theorem dl_step (u : Nat) (h : u ≠ 0) : dl u = dl (u / 10) ++ [UInt8.ofNat (48 + u % 10)] := by
  unfold dl
  rw [if_neg h]
  by_cases h10 : u < 10
  · rw [if_pos (show u / 10 = 0 by omega), Lib.decDigits, dif_pos h10, Nat.mod_eq_of_lt h10]; rfl
  · rw [if_neg (show ¬ u / 10 = 0 by omega), Lib.decDigits, dif_neg h10]
theorem dec_l : ∀ (m u : Nat) (x : Int) (ng : Bool) (acc : ByteArray) (k : Nat), (x = u ∨ x = -(u : Int)) → u < 10 ^ m → m ≤ 19 → u ≤ 9223372036854775808 → m < k → acc.size + m ≤ 1000 →
    spec_Decimal.l0 k x ng acc = some (ofL (if ng = true then [45] else []) ++ (ofL (dl u) ++ acc)) := by
  intro m
  have zero : ∀ (ng : Bool) (acc : ByteArray) (k : Nat), acc.size ≤ 1000 → spec_Decimal.l0 (k + 1) 0 ng acc = some (ofL (if ng = true then [45] else []) ++ (ofL (dl 0) ++ acc)) := by
    intro ng acc k ha
    have e : ofL (dl 0) ++ acc = acc := ofL_nil acc
    rw [spec_Decimal.l0, if_pos rfl, e]
    cases ng with
    | true => rw [if_pos rfl, if_pos (by omega), if_pos rfl]; rfl
    | false => rw [if_neg (by decide), if_neg (by decide), ofL_nil]
  induction m with
  | zero =>
    intro u x ng acc k hx hu hm hb hk ha
    obtain ⟨k, rfl⟩ := ksucc hk
    have e : u = 0 := by simp at hu; omega
    subst e
    have e : x = 0 := by omega
    subst e
    exact zero ng acc k (by omega)
  | succ m ih =>
    intro u x ng acc k hx hu hm hb hk ha
    obtain ⟨k, rfl⟩ := ksucc (show m + 1 < k from hk)
    by_cases h0 : u = 0
    · subst h0
      have e : x = 0 := by omega
      subst e
      exact zero ng acc k (by omega)
    · have hx0 : x ≠ 0 := by omega
      rw [Nat.pow_succ] at hu
      have hd : u / 10 < 10 ^ m := by omega
      have h48 : u % 10 < 10 := by omega
      have hs : (ofL [UInt8.ofNat (48 + u % 10)]).size = 1 := ofL_size _
      have tail : ∀ y : Int, (y = ((u / 10 : Nat) : Int) ∨ y = -((u / 10 : Nat) : Int)) → (if (strOfNums [((48 + u % 10 : Nat) : Int)]).size + acc.size ≤ 9223372036854775807 then spec_Decimal.l0 k (wrap64 y) ng (strOfNums [((48 + u % 10 : Nat) : Int)] ++ acc) else none) = some (ofL (if ng = true then [45] else []) ++ (ofL (dl u) ++ acc)) := by
        intro y hy
        rw [str_one, hs, if_pos (by omega), w64 (by omega) (by omega), ih (u / 10) y ng _ k hy hd (by omega) (by omega) (by omega) (by rw [ByteArray.size_append, hs]; omega), dl_step u h0, ← ofL_app]
        congr 2
        apply ByteArray.ext
        simp [ofL]
      rw [spec_Decimal.l0, if_neg hx0]
      by_cases hneg : x < 0
      · have e : x = -(u : Int) := by omega
        have em : Int.tmod x 10 = -((u % 10 : Nat) : Int) := by rw [e, Int.neg_tmod, Int.tmod_eq_emod_of_nonneg (by omega)]; omega
        have ed : Int.tdiv x 10 = -((u / 10 : Nat) : Int) := by rw [e, Int.neg_tdiv, Int.tdiv_eq_ediv_of_nonneg (by omega)]; omega
        by_cases hz : u % 10 = 0
        · rw [if_neg (by rw [em]; omega), em]
          have e2 : (-((u % 10 : Nat) : Int)) = ((u % 10 : Nat) : Int) := by omega
          rw [e2, fig_eq _ h48]
          simp only [Option.bind_some]
          rw [ed]
          exact tail _ (.inr rfl)
        · rw [if_pos (by rw [em]; omega), em, show (-(-((u % 10 : Nat) : Int))) = ((u % 10 : Nat) : Int) by omega, w64 (by omega) (by omega), fig_eq _ h48]
          simp only [Option.bind_some]
          rw [ed]
          exact tail _ (.inr rfl)
      · have e : x = (u : Int) := by omega
        have em : Int.tmod x 10 = ((u % 10 : Nat) : Int) := by rw [e, Int.tmod_eq_emod_of_nonneg (by omega)]; omega
        have ed : Int.tdiv x 10 = ((u / 10 : Nat) : Int) := by rw [e, Int.tdiv_eq_ediv_of_nonneg (by omega)]; omega
        rw [if_neg (by rw [em]; omega), em, fig_eq _ h48]
        simp only [Option.bind_some]
        rw [ed]
        exact tail _ (.inl rfl)
/-- The reference's numeral. -/
theorem specDec_ev (n : Int) (h1 : -9223372036854775808 ≤ n) (h2 : n ≤ 9223372036854775807) (k : Nat) (hk : 20 < k) : spec_Decimal.f k n = some (ofL (Lib.itoa n)) := by
  unfold spec_Decimal.f
  by_cases h0 : n = 0
  · subst h0; rw [if_pos rfl]; simp [Lib.itoa, Lib.decDigits, ofL]
  · rw [if_neg h0]
    have he : (⟨#[]⟩ : ByteArray) = ofL [] := rfl
    rw [dec_l 19 n.natAbs n (decide (n < 0)) ⟨#[]⟩ k (by omega) (by omega) (by omega) (by omega) (by omega) (by simp [ByteArray.size]), he, ofL_app, ofL_app]
    unfold Lib.itoa dl
    rw [if_neg (show ¬ n.natAbs = 0 by omega)]
    by_cases hn : n < 0
    · rw [if_pos hn, if_pos (by simpa using hn)]; simp
    · rw [if_neg hn, if_neg (by simpa using hn), show n.toNat = n.natAbs by omega]; simp
theorem implDec_ev (n : Int) (h1 : -9223372036854775808 ≤ n) (h2 : n ≤ 9223372036854775807) : impl_Decimal.f n = some (ofL (Lib.itoa n)) := if_pos ⟨h1, h2⟩
theorem dec_len (n : Int) (h1 : -9223372036854775808 ≤ n) (h2 : n ≤ 9223372036854775807) : (Lib.itoa n).length ≤ 21 := Lib.itoa_length_le n h1 h2

/-! the text of a command -/
theorem l01In_eq (a b c : Int) : spec_l01In.f a b c = some (decide (b ≤ a ∧ a ≤ c)) := by
  unfold spec_l01In.f
  by_cases h : a ≥ b
  · rw [if_pos h]; simp [show b ≤ a from h]
  · rw [if_neg h]; simp [show ¬ b ≤ a from h]
/-- The word of a kind, and how many numbers follow it. -/
def word (a : Int) : List UInt8 × Int :=
  if a = 1 then ([111, 114, 100, 101, 114], 1) else if a = 2 then ([116, 105, 99, 107], 0) else if a = 3 then ([114, 101, 103, 105, 115, 116, 101, 114], 2) else if a = 4 then ([99, 108, 97, 105, 109], 1) else if a = 5 then ([114, 101, 108, 101, 97, 115, 101], 1) else if a = 6 then ([109, 111, 118, 101], 2) else if a = 7 then ([97, 99, 107], 1) else ([99, 97, 110, 99, 101, 108], 0)
theorem word_spec (a : Int) (h : 1 ≤ a ∧ a ≤ 8) : spec_l30Word.f a = some (ofL (word a).1, (word a).2) ∧ impl_wordOf.f a = some (ofL (word a).1, (word a).2) := by
  obtain ⟨h1, h2⟩ := h
  have e : a = 1 ∨ a = 2 ∨ a = 3 ∨ a = 4 ∨ a = 5 ∨ a = 6 ∨ a = 7 ∨ a = 8 := by omega
  rcases e with rfl | rfl | rfl | rfl | rfl | rfl | rfl | rfl <;> exact ⟨rfl, rfl⟩
theorem word_none (a : Int) (h : ¬ (1 ≤ a ∧ a ≤ 8)) : spec_l30Word.f a = some (ofL [], 0) ∧ impl_wordOf.f a = some (ofL [], -1) := by
  unfold spec_l30Word.f impl_wordOf.f
  simp only [show ¬ a = 1 by omega, show ¬ a = 2 by omega, show ¬ a = 3 by omega, show ¬ a = 4 by omega, show ¬ a = 5 by omega, show ¬ a = 6 by omega, show ¬ a = 7 by omega, show ¬ a = 8 by omega, if_false]
  exact ⟨rfl, rfl⟩
theorem word_ok (a : Int) : (word a).1 ≠ [] ∧ (word a).1.length ≤ 8 ∧ 0 ≤ (word a).2 ∧ (word a).2 ≤ 2 := by
  unfold word
  repeat' split
  all_goals exact ⟨by decide, by decide, by decide, by decide⟩
def cmdL (wd : List UInt8) (n b c : Int) : List UInt8 := (wd ++ if n > 0 then 32 :: Lib.itoa b else []) ++ if n > 1 then 32 :: Lib.itoa c else []
def in9 (x : Int) : Prop := 0 ≤ x ∧ x ≤ 1000000000
theorem itoa_len9 (x : Int) (h : in9 x) : (Lib.itoa x).length ≤ 21 := Lib.itoa_length_le x (by have := h.1; omega) (by have := h.2; omega)
theorem sp_of : (⟨#[32]⟩ : ByteArray) = ofL [32] := rfl
theorem specJ (wd : List UInt8) (n a b c : Int) (hw : wd.length ≤ 8) (hb : in9 b) (hc : in9 c) (k : Nat) (hk : 20 < k) :
    spec_CmdText.j0 (k + 1) (ofL wd) n false a b c = some (ofL (cmdL wd n b c), true) := by
  have lb := itoa_len9 b hb
  have lc := itoa_len9 c hc
  have eb := specDec_ev b (by have := hb.1; omega) (by have := hb.2; omega) k hk
  have ec := specDec_ev c (by have := hc.1; omega) (by have := hc.2; omega) k hk
  rw [spec_CmdText.j0, if_neg (by decide)]
  unfold cmdL
  by_cases h0 : n > 0
  · rw [if_pos h0, if_pos h0, ofL_size, if_pos (by omega), eb]
    simp only [Option.bind_some, sp_of, ofL_app, ofL_size, List.length_append]
    rw [if_pos (by simp; omega)]
    by_cases h1 : n > 1
    · rw [if_pos h1, if_pos h1, if_pos (by simp; omega), ec]
      simp only [Option.bind_some, ofL_app, ofL_size, List.length_append]
      rw [if_pos (by simp; omega)]
      simp
    · rw [if_neg h1, if_neg h1]; simp
  · rw [if_neg h0, if_neg h0, if_neg (show ¬ n > 1 by omega), if_neg (show ¬ n > 1 by omega)]; simp
theorem implJ (wd : List UInt8) (n a b c : Int) (hw : wd.length ≤ 8) (hb : in9 b) (hc : in9 c) (k : Nat) :
    impl_CmdText.j0 (k + 1) (ofL wd) n false a b c = some (ofL (cmdL wd n b c), true) := by
  have lb := itoa_len9 b hb
  have lc := itoa_len9 c hc
  have eb := implDec_ev b (by have := hb.1; omega) (by have := hb.2; omega)
  have ec := implDec_ev c (by have := hc.1; omega) (by have := hc.2; omega)
  rw [impl_CmdText.j0, if_neg (by decide)]
  unfold cmdL
  by_cases h0 : n > 0
  · rw [if_pos h0, if_pos h0, eb]
    simp only [Option.bind_some, sp_of, ofL_app, ofL_size, List.length_append]
    rw [if_pos (by omega), if_pos (by simp; omega)]
    by_cases h1 : n > 1
    · rw [if_pos h1, if_pos h1, ec]
      simp only [Option.bind_some, ofL_app, ofL_size, List.length_append]
      rw [if_pos (by omega), if_pos (by simp; omega)]
      simp
    · rw [if_neg h1, if_neg h1]; simp
  · rw [if_neg h0, if_neg h0, if_neg (show ¬ n > 1 by omega), if_neg (show ¬ n > 1 by omega)]; simp
/-- A command that has a text. -/
def textual (a b c : Int) : Prop := (1 ≤ a ∧ a ≤ 8) ∧ in9 b ∧ in9 c ∧ ((word a).2 < 1 → b = 0) ∧ ((word a).2 < 2 → c = 0)
instance (x : Int) : Decidable (in9 x) := by unfold in9; infer_instance
instance (a b c : Int) : Decidable (textual a b c) := by unfold textual; infer_instance
def cmdO (a b c : Int) : ByteArray × Bool := if textual a b c then (ofL (cmdL (word a).1 (word a).2 b c), true) else (ofL [], false)
theorem specT (wd : ByteArray) (n a b c : Int) (k : Nat) : spec_CmdText.j0 (k + 1) wd n true a b c = some (ofL [], false) := by rw [spec_CmdText.j0, if_pos rfl]; rfl
theorem implT (wd : ByteArray) (n a b c : Int) (k : Nat) : impl_CmdText.j0 (k + 1) wd n true a b c = some (ofL [], false) := by rw [impl_CmdText.j0, if_pos rfl]; rfl
theorem cmdText_ev (a b c : Int) (k : Nat) (hk : 21 < k) : spec_CmdText.f k a b c = some (cmdO a b c) ∧ impl_CmdText.f k a b c = some (cmdO a b c) := by
  obtain ⟨k, rfl⟩ := ksucc (show 0 < k by omega)
  unfold spec_CmdText.f impl_CmdText.f
  by_cases ha : 1 ≤ a ∧ a ≤ 8
  · obtain ⟨w1, w2⟩ := word_spec a ha
    obtain ⟨o1, o2, o3, o4⟩ := word_ok a
    rw [w1, w2]
    simp only [Option.bind_some]
    have hne : ¬ (ofL (word a).1).toList = ([] : List UInt8) := by
      intro e
      have h1 : (ofL (word a).1).toList = (word a).1 := by rw [ByteArray.toList_eq]; simp [ofL]
      exact o1 (h1.symm.trans e)
    rw [if_neg hne, if_neg (show ¬ (word a).2 < 0 by omega)]
    simp only [l01In_eq, Option.bind_some]
    have bad : ¬ textual a b c → cmdO a b c = (ofL [], false) := fun h => if_neg h
    by_cases hb : in9 b
    · obtain ⟨b1, b2⟩ := hb
      rw [if_pos (by simp; omega), if_neg (show ¬ b < 0 by omega), if_neg (show ¬ b > 1000000000 by omega)]
      by_cases hc : in9 c
      · obtain ⟨c1, c2⟩ := hc
        rw [if_pos (by simp; omega), if_neg (show ¬ c < 0 by omega), if_neg (show ¬ c > 1000000000 by omega)]
        have sj := specJ (word a).1 (word a).2 a b c o2 ⟨b1, b2⟩ ⟨c1, c2⟩ k (by omega)
        have ij := implJ (word a).1 (word a).2 a b c o2 ⟨b1, b2⟩ ⟨c1, c2⟩ k
        by_cases n1 : (word a).2 < 1
        · simp only [if_pos n1, if_pos (show (word a).2 < 2 by omega)]
          by_cases h0 : b = 0
          · simp only [if_pos h0]
            by_cases h2 : c = 0
            · have e : (c != 0) = false := by simp [h2]
              rw [e, sj, ij]
              have : cmdO a b c = _ := if_pos ⟨ha, ⟨b1, b2⟩, ⟨c1, c2⟩, fun _ => h0, fun _ => h2⟩
              rw [this]; exact ⟨rfl, rfl⟩
            · have e : (c != 0) = true := by simp [h2]
              rw [e, specT, implT, bad (fun t => h2 (t.2.2.2.2 (by omega)))]; exact ⟨rfl, rfl⟩
          · simp only [if_neg h0]
            rw [specT, implT, bad (fun t => h0 (t.2.2.2.1 n1))]; exact ⟨rfl, rfl⟩
        · simp only [if_neg n1]
          by_cases n2 : (word a).2 < 2
          · simp only [if_pos n2]
            by_cases h2 : c = 0
            · have e : (c != 0) = false := by simp [h2]
              rw [e, sj, ij]
              have : cmdO a b c = _ := if_pos ⟨ha, ⟨b1, b2⟩, ⟨c1, c2⟩, fun h => absurd h n1, fun _ => h2⟩
              rw [this]; exact ⟨rfl, rfl⟩
            · have e : (c != 0) = true := by simp [h2]
              rw [e, specT, implT, bad (fun t => h2 (t.2.2.2.2 n2))]; exact ⟨rfl, rfl⟩
          · simp only [if_neg n2]
            rw [sj, ij]
            have : cmdO a b c = _ := if_pos ⟨ha, ⟨b1, b2⟩, ⟨c1, c2⟩, fun h => absurd h n1, fun h => absurd h n2⟩
            rw [this]; exact ⟨rfl, rfl⟩
      · rw [bad (fun t => hc t.2.2.1), if_neg (by simp; unfold in9 at hc; omega), specT]
        refine ⟨rfl, ?_⟩
        by_cases h1 : c < 0
        · rw [if_pos h1, implT]
        · rw [if_neg h1, if_pos (by unfold in9 at hc; omega), implT]
    · rw [bad (fun t => hb t.2.1), if_neg (by simp; unfold in9 at hb; omega), specT]
      refine ⟨rfl, ?_⟩
      by_cases h1 : b < 0
      · rw [if_pos h1, implT]
      · rw [if_neg h1, if_pos (by unfold in9 at hb; omega), implT]
  · obtain ⟨w1, w2⟩ := word_none a ha
    rw [w1, w2]
    simp only [Option.bind_some]
    have hnil : (ofL []).toList = ([] : List UInt8) := by rw [ByteArray.toList_eq]; simp [ofL]
    rw [if_pos hnil, if_pos (by decide), specT, implT]
    have : cmdO a b c = _ := if_neg (fun t => ha t.1)
    rw [this]; exact ⟨rfl, rfl⟩

theorem FnExactCmdText : OpFnExactCmdText.Pure := by
  intro y _
  refine ⟨30, ?_⟩
  obtain ⟨h1, h2⟩ := cmdText_ev y.f0 y.f1 y.f2 30 (by omega)
  unfold laws_FnExactCmdText.f laws_toCmd.f
  simp only [Option.bind_some]
  rw [h1]
  simp only [Option.bind_some]
  rw [h2]
  simp

end Go.Proofs.YtpkffapjplebgaaDoor.Pure
