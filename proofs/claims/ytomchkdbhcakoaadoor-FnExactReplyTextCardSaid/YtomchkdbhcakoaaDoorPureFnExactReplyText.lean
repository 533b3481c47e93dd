/- The law FnExactReplyText over numbers and lists alone: it answers true for every input; no condition beside the bounds of the kinds. -/
import Derived.Test.YtomchkdbhcakoaaDoorMFnExactReplyTextx
import Derived.Test.YtomchkdbhcakoaaDoorOpFnExactReplyText
import Derived.Lib.ItoaLen
namespace Go.Proofs.YtomchkdbhcakoaaDoor.Pure
open Go.RowKit Go.Proofs.YtomchkdbhcakoaaDoor.MFnExactReplyText Go.Proofs.YtomchkdbhcakoaaDoorW.PrintWords Go.Proofs.YtomchkdbhcakoaaDoorW.PrintLast Go.Proofs.YtomchkdbhcakoaaDoor
set_option linter.unusedVariables false
set_option linter.unusedSimpArgs false

theorem w64 {x : Int} (h1 : -9223372036854775808 ≤ x) (h2 : x ≤ 9223372036854775807) : wrap64 x = x := by unfold wrap64; omega
theorem wnat {i : Nat} (h : i < 4611686018427387904) : wrap64 ((i : Int) + 1) = ((i + 1 : Nat) : Int) := by unfold wrap64; omega
theorem ksucc {k d : Nat} (h : d < k) : ∃ m, k = m + 1 := ⟨k - 1, by omega⟩

theorem fill_step {α β : Type} (f : α → β) (z : β) (xs : List α) (i d : Nat) (h : i + (d + 1) = xs.length) (hi : i < xs.length) :
    ((xs.take i).map f ++ List.replicate (d + 1) z).set i (f xs[i]) = (xs.take (i + 1)).map f ++ List.replicate d z := by
  have hl : ((xs.take i).map f).length = i := by simp; omega
  rw [List.replicate_succ, List.set_append_right _ _ (by omega), hl, Nat.sub_self, List.set_cons_zero, List.take_succ_eq_append_getElem hi, List.map_append]
  simp

/-! Orders, made of what came in -/
def cvOrder (y : S64) : S49 := ⟨y.f0, y.f1, y.f2⟩
theorem rdLOrder (xs : List S64) (i : Nat) (h : i < xs.length) : rd_T64 xs (i : Int) = xs[i] := by simp [rd_T64, List.getD, h]
theorem toOrderS_l (xs : List S64) (hb : xs.length ≤ 1048576) : ∀ (d i k : Nat), i + d = xs.length → d < k →
    laws_toOrderS.l0 k xs ((xs.take i).map cvOrder ++ List.replicate d z49) (i : Int) = some (xs.map cvOrder) := by
  intro d
  induction d with
  | zero =>
    intro i k h hk
    obtain ⟨k, rfl⟩ := ksucc hk
    simp only [laws_toOrderS.l0]
    rw [if_neg (by omega), List.take_of_length_le (by omega)]
    simp
  | succ d ih =>
    intro i k h hk
    obtain ⟨k, rfl⟩ := ksucc hk
    have hi : i < xs.length := by omega
    simp only [laws_toOrderS.l0, laws_toOrder.f, Option.bind_some]
    rw [if_pos (by omega), if_pos (by omega), if_pos (by simp; omega), rdLOrder xs i hi, wnat (by omega)]
    have e : (i : Int).toNat = i := by simp
    rw [e]
    exact (congrArg (fun z => laws_toOrderS.l0 k xs z ((i + 1 : Nat) : Int)) (fill_step cvOrder z49 xs i d h hi)).trans (ih (i + 1) k (by omega) (by omega))
theorem toOrderS_ev (xs : List S64) (hb : xs.length ≤ 1048576) (k : Nat) (hk : xs.length < k) : laws_toOrderS.f k xs = some (xs.map cvOrder) := by
  unfold laws_toOrderS.f
  rw [if_pos (by omega), if_pos (by omega)]
  have := toOrderS_l xs hb xs.length 0 k (by omega) hk
  simpa using this

/-! Orders, compared -/
theorem rdIOrder (xs : List S49) (i : Nat) (h : i < xs.length) : rd_T49 xs (i : Int) = xs[i] := by simp [rd_T49, List.getD, h]
theorem eqOrder_refl (x0 : Int) (x1 : Int) (x2 : Int) : laws_eqOrder.f x0 x1 x2 x0 x1 x2 = some true := by simp [laws_eqOrder.f]
theorem eqOrderS_l (xs : List S49) (hb : xs.length ≤ 1048576) : ∀ (d i k : Nat), i + d = xs.length → d < k → laws_eqOrderS.l0 k xs xs (i : Int) = some true := by
  intro d
  induction d with
  | zero =>
    intro i k h hk
    obtain ⟨k, rfl⟩ := ksucc hk
    simp only [laws_eqOrderS.l0]
    rw [if_neg (by omega)]
  | succ d ih =>
    intro i k h hk
    obtain ⟨k, rfl⟩ := ksucc hk
    simp only [laws_eqOrderS.l0, eqOrder_refl, Option.bind_some]
    rw [if_pos (by omega), if_pos (by omega), if_pos (by omega), if_pos trivial, wnat (by omega)]
    exact ih (i + 1) k (by omega) (by omega)
theorem eqOrderS_ev (xs : List S49) (hb : xs.length ≤ 1048576) (k : Nat) (hk : xs.length < k) : laws_eqOrderS.f k xs xs = some true := by
  unfold laws_eqOrderS.f
  rw [if_pos rfl]
  exact eqOrderS_l xs hb xs.length 0 k (by omega) hk

theorem str_append (xs ys : List Int) : strOfNums (xs ++ ys) = strOfNums xs ++ strOfNums ys := by
  apply ByteArray.ext
  simp [strOfNums]
theorem str_bytesOf (s : ByteArray) : strOfNums (bytesOf s) = s := by
  apply ByteArray.ext
  simp only [strOfNums, bytesOf, List.map_map]
  have : s.data.toList.map ((fun n : Int => UInt8.ofNat n.toNat) ∘ fun b : UInt8 => (b.toNat : Int)) = s.data.toList := by
    rw [List.map_congr_left (g := id) (fun b _ => by simp), List.map_id]
  rw [this]

/-! decimal numerals: the reference's are the library's -/
def ofL (l : List UInt8) : ByteArray := ⟨l.toArray⟩
theorem ofL_app (a b : List UInt8) : ofL a ++ ofL b = ofL (a ++ b) := by apply ByteArray.ext; simp [ofL]
theorem ofL_size (a : List UInt8) : (ofL a).size = a.length := by simp [ofL, ByteArray.size]
theorem ofL_nil (x : ByteArray) : ofL [] ++ x = x := by apply ByteArray.ext; simp [ofL]
theorem ofL_list (a : List UInt8) : (ofL a).data.toList = a := by simp [ofL]
theorem ofL_of (x : ByteArray) : ofL x.data.toList = x := by apply ByteArray.ext; simp [ofL]
theorem fig_eq (d : Nat) (h : d < 10) : spec_l01Figure.f (d : Int) = some ((48 + d : Nat) : Int) := by
  unfold spec_l01Figure.f
  rw [if_pos (by omega), w64 (by omega) (by omega)]
  congr 1
  omega
theorem str_one (d : Nat) : strOfNums [((d : Nat) : Int)] = ofL [UInt8.ofNat d] := by simp [strOfNums, ofL]
def dl (u : Nat) : List UInt8 := if u = 0 then [] else Lib.decDigits u
theorem dl_step (u : Nat) (h : u ≠ 0) : dl u = dl (u / 10) ++ [UInt8.ofNat (48 + u % 10)] := by
  unfold dl
  rw [if_neg h]
  by_cases h10 : u < 10
  · rw [if_pos (show u / 10 = 0 by omega), Lib.decDigits, dif_pos h10, Nat.mod_eq_of_lt h10]; rfl
  · rw [if_neg (show ¬ u / 10 = 0 by omega), Lib.decDigits, dif_neg h10]
theorem dec_l : ∀ (m u : Nat) (x : Int) (ng : Bool) (acc : ByteArray) (k : Nat), (x = u ∨ x = -(u : Int)) → u < 10 ^ m → m ≤ 19 → u ≤ 9223372036854775808 → m < k → acc.size + m ≤ 1000 →
    spec_Decimal.l0 k x ng acc = some (ofL (if ng = true then [45] else []) ++ (ofL (dl u) ++ acc)) := by
  intro m
  have zero : ∀ (ng : Bool) (acc : ByteArray) (k : Nat), acc.size ≤ 1000 → spec_Decimal.l0 (k + 1) 0 ng acc = some (ofL (if ng = true then [45] else []) ++ (ofL (dl 0) ++ acc)) := by
    intro ng acc k ha
    have e : ofL (dl 0) ++ acc = acc := ofL_nil acc
    rw [spec_Decimal.l0, if_pos rfl, e]
    cases ng with
    | true => rw [if_pos rfl, if_pos (by omega), if_pos rfl]; rfl
    | false => rw [if_neg (by decide), if_neg (by decide), ofL_nil]
  induction m with
  | zero =>
    intro u x ng acc k hx hu hm hb hk ha
    obtain ⟨k, rfl⟩ := ksucc hk
    have e : u = 0 := by simp at hu; omega
    subst e
    have e : x = 0 := by omega
    subst e
    exact zero ng acc k (by omega)
  | succ m ih =>
    intro u x ng acc k hx hu hm hb hk ha
    obtain ⟨k, rfl⟩ := ksucc (show m + 1 < k from hk)
    by_cases h0 : u = 0
    · subst h0
      have e : x = 0 := by omega
      subst e
      exact zero ng acc k (by omega)
    · have hx0 : x ≠ 0 := by omega
      rw [Nat.pow_succ] at hu
      have hd : u / 10 < 10 ^ m := by omega
      have h48 : u % 10 < 10 := by omega
      have hs : (ofL [UInt8.ofNat (48 + u % 10)]).size = 1 := ofL_size _
      have tail : ∀ y : Int, (y = ((u / 10 : Nat) : Int) ∨ y = -((u / 10 : Nat) : Int)) → (if (strOfNums [((48 + u % 10 : Nat) : Int)]).size + acc.size ≤ 9223372036854775807 then spec_Decimal.l0 k (wrap64 y) ng (strOfNums [((48 + u % 10 : Nat) : Int)] ++ acc) else none) = some (ofL (if ng = true then [45] else []) ++ (ofL (dl u) ++ acc)) := by
        intro y hy
        rw [str_one, hs, if_pos (by omega), w64 (by omega) (by omega), ih (u / 10) y ng _ k hy hd (by omega) (by omega) (by omega) (by rw [ByteArray.size_append, hs]; omega), dl_step u h0, ← ofL_app]
        congr 2
        apply ByteArray.ext
        simp [ofL]
      rw [spec_Decimal.l0, if_neg hx0]
      by_cases hneg : x < 0
      · have e : x = -(u : Int) := by omega
        have em : Int.tmod x 10 = -((u % 10 : Nat) : Int) := by rw [e, Int.neg_tmod, Int.tmod_eq_emod_of_nonneg (by omega)]; omega
        have ed : Int.tdiv x 10 = -((u / 10 : Nat) : Int) := by rw [e, Int.neg_tdiv, Int.tdiv_eq_ediv_of_nonneg (by omega)]; omega
        by_cases hz : u % 10 = 0
        · rw [if_neg (by rw [em]; omega), em]
          have e2 : (-((u % 10 : Nat) : Int)) = ((u % 10 : Nat) : Int) := by omega
          rw [e2, fig_eq _ h48]
          simp only [Option.bind_some]
          rw [ed]
          exact tail _ (.inr rfl)
        · rw [if_pos (by rw [em]; omega), em, show (-(-((u % 10 : Nat) : Int))) = ((u % 10 : Nat) : Int) by omega, w64 (by omega) (by omega), fig_eq _ h48]
          simp only [Option.bind_some]
          rw [ed]
          exact tail _ (.inr rfl)
      · have e : x = (u : Int) := by omega
        have em : Int.tmod x 10 = ((u % 10 : Nat) : Int) := by rw [e, Int.tmod_eq_emod_of_nonneg (by omega)]; omega
        have ed : Int.tdiv x 10 = ((u / 10 : Nat) : Int) := by rw [e, Int.tdiv_eq_ediv_of_nonneg (by omega)]; omega
        rw [if_neg (by rw [em]; omega), em, fig_eq _ h48]
        simp only [Option.bind_some]
        rw [ed]
        exact tail _ (.inl rfl)
/-- The reference's numeral. -/
theorem specDec_ev (n : Int) (h1 : -9223372036854775808 ≤ n) (h2 : n ≤ 9223372036854775807) (k : Nat) (hk : 20 < k) : spec_Decimal.f k n = some (ofL (Lib.itoa n)) := by
  unfold spec_Decimal.f
  by_cases h0 : n = 0
  · subst h0; rw [if_pos rfl]; simp [Lib.itoa, Lib.decDigits, ofL]
  · rw [if_neg h0]
    have he : (⟨#[]⟩ : ByteArray) = ofL [] := rfl
    rw [dec_l 19 n.natAbs n (decide (n < 0)) ⟨#[]⟩ k (by omega) (by omega) (by omega) (by omega) (by omega) (by simp [ByteArray.size]), he, ofL_app, ofL_app]
    unfold Lib.itoa dl
    rw [if_neg (show ¬ n.natAbs = 0 by omega)]
    by_cases hn : n < 0
    · rw [if_pos hn, if_pos (by simpa using hn)]; simp
    · rw [if_neg hn, if_neg (by simpa using hn), show n.toNat = n.natAbs by omega]; simp
theorem implDec_ev (n : Int) (h1 : -9223372036854775808 ≤ n) (h2 : n ≤ 9223372036854775807) : impl_Decimal.f n = some (ofL (Lib.itoa n)) := if_pos ⟨h1, h2⟩
theorem dec_len (n : Int) (h1 : -9223372036854775808 ≤ n) (h2 : n ≤ 9223372036854775807) : (Lib.itoa n).length ≤ 21 := Lib.itoa_length_le n h1 h2

def go4 : List UInt8 := [32, 103, 111, 32]
def ordL (o : S49) : List UInt8 := ((go4 ++ Lib.itoa o.f0) ++ [32]) ++ Lib.itoa o.f2
def R64 (x : Int) : Prop := -9223372036854775808 ≤ x ∧ x ≤ 9223372036854775807
def okO (o : S49) : Prop := R64 o.f0 ∧ R64 o.f2
theorem itoa_len (x : Int) (h : R64 x) : (Lib.itoa x).length ≤ 21 := Lib.itoa_length_le x h.1 h.2
theorem go_of (a b : List UInt8) : (((⟨#[32, 103, 111, 32]⟩ : ByteArray) ++ ofL a) ++ (⟨#[32]⟩ : ByteArray)) ++ ofL b = ofL (((go4 ++ a) ++ [32]) ++ b) := by
  have e1 : (⟨#[32, 103, 111, 32]⟩ : ByteArray) = ofL go4 := rfl
  have e2 : (⟨#[32]⟩ : ByteArray) = ofL [32] := rfl
  rw [e1, e2, ofL_app, ofL_app, ofL_app]
theorem go_of1 (a : List UInt8) : ((⟨#[32, 103, 111, 32]⟩ : ByteArray) ++ ofL a).size = 4 + a.length := by
  rw [ByteArray.size_append, ofL_size]; rfl
theorem go_of2 (a : List UInt8) : (((⟨#[32, 103, 111, 32]⟩ : ByteArray) ++ ofL a) ++ (⟨#[32]⟩ : ByteArray)).size = 5 + a.length := by
  rw [ByteArray.size_append, go_of1]; show 4 + a.length + 1 = _; omega
theorem spec_l (xs : List S49) (hb : xs.length ≤ 1048576) (hok : ∀ o ∈ xs, okO o) : ∀ (d i k : Nat) (acc : List UInt8), i + d = xs.length → d + 30 < k → acc.length ≤ 100 + 47 * i →
    spec_ReplyText.l0 k acc xs (i : Int) = some (ofL (acc ++ ((xs.drop i).map ordL).flatten)) := by
  intro d
  induction d with
  | zero =>
    intro i k acc h hk ha
    obtain ⟨k, rfl⟩ := ksucc (show 0 < k by omega)
    rw [spec_ReplyText.l0, if_neg (by omega), List.drop_of_length_le (by omega)]
    simp [ofL]
  | succ d ih =>
    intro i k acc h hk ha
    obtain ⟨k, rfl⟩ := ksucc (show 0 < k by omega)
    have hi : i < xs.length := by omega
    obtain ⟨o1, o2⟩ := hok _ (List.getElem_mem hi)
    have l1 := itoa_len _ o1
    have l2 := itoa_len _ o2
    have hdr : xs.drop i = xs[i] :: xs.drop (i + 1) := List.drop_eq_getElem_cons hi
    rw [spec_ReplyText.l0, if_pos (by omega), if_pos (by omega), rdIOrder xs i hi, specDec_ev _ o1.1 o1.2 k (by omega)]
    simp only [Option.bind_some]
    rw [ofL_size, if_pos (by omega), go_of1, if_pos (by omega), specDec_ev _ o2.1 o2.2 k (by omega)]
    simp only [Option.bind_some]
    rw [go_of2, ofL_size, if_pos (by omega), go_of, ofL_size]
    have e : (((go4 ++ Lib.itoa xs[i].f0) ++ [32]) ++ Lib.itoa xs[i].f2).length ≤ 47 := by simp [go4]; omega
    rw [if_pos (by omega), wnat (by omega), ofL_list, ih (i + 1) k _ (by omega) (by omega) (by rw [List.length_append]; omega), hdr, List.map_cons, List.flatten_cons]
    simp [ordL]
theorem impl_l (xs : List S49) (hb : xs.length ≤ 1048576) (hok : ∀ o ∈ xs, okO o) : ∀ (d i k : Nat) (acc : List UInt8), i + d = xs.length → d < k → acc.length ≤ 100 + 47 * i →
    impl_ReplyText.l0 k (ofL acc) xs (xs.length : Int) (i : Int) = some (ofL (acc ++ ((xs.drop i).map ordL).flatten)) := by
  intro d
  induction d with
  | zero =>
    intro i k acc h hk ha
    obtain ⟨k, rfl⟩ := ksucc (show 0 < k by omega)
    rw [impl_ReplyText.l0, if_neg (by omega), List.drop_of_length_le (by omega)]
    simp
  | succ d ih =>
    intro i k acc h hk ha
    obtain ⟨k, rfl⟩ := ksucc (show 0 < k by omega)
    have hi : i < xs.length := by omega
    obtain ⟨o1, o2⟩ := hok _ (List.getElem_mem hi)
    have l1 := itoa_len _ o1
    have l2 := itoa_len _ o2
    have hdr : xs.drop i = xs[i] :: xs.drop (i + 1) := List.drop_eq_getElem_cons hi
    rw [impl_ReplyText.l0, if_pos (by omega), if_pos (by omega), if_pos (by omega), rdIOrder xs i hi, implDec_ev _ o1.1 o1.2]
    simp only [Option.bind_some]
    rw [ofL_size, if_pos (by omega), go_of1, if_pos (by omega), implDec_ev _ o2.1 o2.2]
    simp only [Option.bind_some]
    rw [go_of2, ofL_size, if_pos (by omega), go_of, ofL_size, ofL_size]
    have e : (((go4 ++ Lib.itoa xs[i].f0) ++ [32]) ++ Lib.itoa xs[i].f2).length ≤ 47 := by simp [go4]; omega
    rw [if_pos (by omega), wnat (by omega), ofL_app, ih (i + 1) k _ (by omega) (by omega) (by rw [List.length_append]; omega), hdr, List.map_cons, List.flatten_cons]
    simp [ordL]
def code5 : List UInt8 := [99, 111, 100, 101, 32]
def stat8 : List UInt8 := [32, 115, 116, 97, 116, 117, 115, 32]
theorem both (a b : Int) (xs : List S49) (hb : xs.length ≤ 1048576) (ha : R64 a) (hb' : R64 b) (hok : ∀ o ∈ xs, okO o) (k : Nat) (hk : 1048800 < k) :
    ∃ o, spec_ReplyText.f k a b xs = some o ∧ impl_ReplyText.f k a b xs = some o := by
  have la := itoa_len _ ha
  have lb := itoa_len _ hb'
  have e1 : (⟨#[99, 111, 100, 101, 32]⟩ : ByteArray) = ofL code5 := rfl
  have e2 : (⟨#[32, 115, 116, 97, 116, 117, 115, 32]⟩ : ByteArray) = ofL stat8 := rfl
  have c5 : code5.length = 5 := rfl
  have s8 : stat8.length = 8 := rfl
  obtain ⟨k, rfl⟩ := ksucc (show 0 < k by omega)
  have h0 : ∀ (k : Nat) acc, 1048700 < k → acc.length ≤ 100 → spec_ReplyText.l0 k acc xs 0 = some (ofL (acc ++ (xs.map ordL).flatten)) := fun k acc hk hl => by simpa using spec_l xs hb hok xs.length 0 k acc (by omega) (by omega) (by omega)
  have h1 : ∀ acc, acc.length ≤ 100 → impl_ReplyText.j0 (k + 1) (ofL acc) a b xs = some (ofL (acc ++ (xs.map ordL).flatten)) := fun acc hl => by
    rw [impl_ReplyText.j0]
    simpa using impl_l xs hb hok xs.length 0 k acc (by omega) (by omega) (by omega)
  unfold spec_ReplyText.f impl_ReplyText.f
  rw [specDec_ev _ ha.1 ha.2 (k + 1) (by omega), implDec_ev _ ha.1 ha.2, e1, e2]
  simp only [Option.bind_some]
  have q1 : 5 + (Lib.itoa a).length ≤ 9223372036854775807 := by omega
  simp only [ofL_size, if_pos q1, ofL_app]
  by_cases h : b = 0
  · simp only [if_pos h, ofL_list]
    exact ⟨_, h0 _ _ (by omega) (by simp; omega), h1 _ (by simp; omega)⟩
  · simp only [if_neg h]
    rw [specDec_ev _ hb'.1 hb'.2 (k + 1) (by omega), implDec_ev _ hb'.1 hb'.2]
    simp only [Option.bind_some, ofL_size, ofL_app, List.length_append]
    have q2 : code5.length + (Lib.itoa a).length + 8 ≤ 9223372036854775807 := by omega
    have q3 : code5.length + (Lib.itoa a).length + stat8.length + (Lib.itoa b).length ≤ 9223372036854775807 := by omega
    have q4 : 8 + (Lib.itoa b).length ≤ 9223372036854775807 := by omega
    have q5 : code5.length + (Lib.itoa a).length + (stat8.length + (Lib.itoa b).length) ≤ 9223372036854775807 := by omega
    simp only [if_pos q2, if_pos q3, if_pos q4, if_pos q5, ofL_list]
    refine ⟨_, h0 _ _ (by omega) (by simp; omega), ?_⟩
    rw [h1 _ (by simp; omega)]
    simp
theorem FnExactReplyText : OpFnExactReplyText.Pure := by
  intro y hy
  obtain ⟨h0, h1, h2, h3⟩ := hy
  obtain ⟨K, hK⟩ : ∃ K, 1100000 < K := ⟨1100001, by omega⟩
  refine ⟨K, ?_⟩
  unfold laws_FnExactReplyText.f laws_szReply.f laws_szOrderS.f
  rw [w64 (by omega) (by omega)]
  by_cases h : 1048576 - (y.f2.length : Int) < 0
  · rw [if_pos h]; simp
  · have hl : y.f2.length ≤ 1048576 := by omega
    have hm : (y.f2.map cvOrder).length ≤ 1048576 := by simpa using hl
    rw [if_neg h]
    simp only [Option.bind_some]
    rw [if_neg h]
    simp only [Option.bind_some]
    rw [if_neg h]
    have toR : laws_toReply.f K y.f0 y.f1 y.f2 = some (y.f0, y.f1, y.f2.map cvOrder) := by
      unfold laws_toReply.f
      rw [toOrderS_ev y.f2 hl K (by omega)]; rfl
    obtain ⟨o, s1, s2⟩ := both y.f0 y.f1 (y.f2.map cvOrder) hm h0 h1 (by
      intro o ho
      obtain ⟨z, hz, rfl⟩ := List.mem_map.1 ho
      exact ⟨(h3 z hz).1, (h3 z hz).2.2⟩) K (by omega)
    rw [toR]
    simp only [Option.bind_some]
    rw [s1]
    simp only [Option.bind_some]
    rw [s2]
    simp only [Option.bind_some]
    rw [if_pos trivial]
    unfold laws_eqReply.f
    rw [if_pos rfl, if_pos rfl, eqOrderS_ev _ hm K (by omega)]
    simp

end Go.Proofs.YtomchkdbhcakoaaDoor.Pure
