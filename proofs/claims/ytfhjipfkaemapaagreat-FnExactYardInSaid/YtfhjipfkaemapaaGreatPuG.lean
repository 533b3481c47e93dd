/- Plain laws about what the functions compute: ways that are level, meets, swaps and rings. -/
import Derived.Test.YtfhjipfkaemapaaGreatPuF
namespace Go.Proofs.YtfhjipfkaemapaaGreat.Pu
open Go Go.Av Go.Proofs Go.Proofs.YtfhjipfkaemapaaGreat.V
set_option linter.unusedVariables false
set_option linter.unusedSimpArgs false
theorem find_gen {ρ : Type} (n : Nat) (hn : n ≤ 16777216) (L : Nat → Int → Option ρ) (c : Nat → Bool) (C : Nat) (r fin : ρ)
  (h1 : ∀ kq i, i < n → C ≤ kq → L (kq + 1) (i : Int) = if c i = true then some r else L kq (w64 ((i : Int) + 1))) (h2 : ∀ kq, C ≤ kq → L (kq + 1) (n : Int) = some fin) :
  ∀ d i k, i + d = n → C + d < k → L k (i : Int) = some (if (List.range' i d).any c = true then r else fin) := by
 intro d
 induction d with
 | zero =>
   intro i k hi hk
   obtain ⟨k, rfl⟩ := ks hk
   obtain rfl : i = n := by omega
   rw [h2 k (by omega)]
   rfl
 | succ d ih =>
   intro i k hi hk
   obtain ⟨k, rfl⟩ := ks hk
   rw [h1 k i (by omega) (by omega), wn (by omega), ih (i + 1) k (by omega) (by omega), List.range'_succ, List.any_cons]
   cases c i <;> rfl
theorem count_from {ρ : Type} (lo n : Nat) (hn : n ≤ 16777216) (L : Nat → Int → Int → Option ρ) (c : Nat → Bool) (C : Nat) (F : Int → ρ)
  (h1 : ∀ kq (m i : Nat), lo ≤ i → i < n → C ≤ kq → L (kq + 1) (m : Int) (i : Int) = if c i = true then L kq (w64 ((m : Int) + 1)) (w64 ((i : Int) + 1)) else L kq (m : Int) (w64 ((i : Int) + 1))) (h2 : ∀ kq m, C ≤ kq → L (kq + 1) m (n : Int) = some (F m)) :
  ∀ d (i m k : Nat), lo ≤ i → i + d = n → C + d < k → m ≤ 16777216 * 2 - d → d ≤ 16777216 → L k (m : Int) (i : Int) = some (F ((m + ((List.range' i d).filter c).length : Nat) : Int)) := by
 intro d
 induction d with
 | zero =>
   intro i m k _ hi hk hm _
   obtain ⟨k, rfl⟩ := ks hk
   obtain rfl : i = n := by omega
   rw [h2 k _ (by omega)]
   rfl
 | succ d ih =>
   intro i m k hlo hi hk hm hd
   obtain ⟨k, rfl⟩ := ks hk
   rw [h1 k m i hlo (by omega) (by omega), wn (i := i) (by omega), wn (i := m) (by omega), List.range'_succ, List.filter_cons]
   cases c i
   ·rw [if_neg (by simp), if_neg (by simp)]
    exact ih (i + 1) m k (by omega) (by omega) (by omega) (by omega) (by omega)
   ·rw [if_pos rfl, if_pos rfl, ih (i + 1) (m + 1) k (by omega) (by omega) (by omega) (by omega) (by omega), List.length_cons]
    refine congrArg some (congrArg F ?_)
    omega
theorem count_gen {ρ : Type} (n : Nat) (hn : n ≤ 16777216) (L : Nat → Int → Int → Option ρ) (c : Nat → Bool) (C : Nat) (F : Int → ρ)
  (h1 : ∀ kq (m i : Nat), i < n → C ≤ kq → L (kq + 1) (m : Int) (i : Int) = if c i = true then L kq (w64 ((m : Int) + 1)) (w64 ((i : Int) + 1)) else L kq (m : Int) (w64 ((i : Int) + 1))) (h2 : ∀ kq m, C ≤ kq → L (kq + 1) m (n : Int) = some (F m)) :
  ∀ d (i m k : Nat), i + d = n → C + d < k → m ≤ 16777216 * 2 - d → d ≤ 16777216 → L k (m : Int) (i : Int) = some (F ((m + ((List.range' i d).filter c).length : Nat) : Int)) :=
 fun d i m k => count_from 0 n hn L c C F (fun kq m i _ => h1 kq m i) h2 d i m k (Nat.zero_le _)
theorem any_or {l : List Nat} (p q : Nat → Bool) : l.any (fun i => p i || q i) = (l.any p || l.any q) := by
 induction l with
 | nil => rfl
 | cons x t ih =>
   rw [List.any_cons, List.any_cons, List.any_cons, ih]
   cases p x <;> cases q x <;> simp
theorem any_congr {l : List Nat} {p q : Nat → Bool} (h : ∀ x ∈ l, p x = q x) : l.any p = l.any q := by
 induction l with
 | nil => rfl
 | cons x t ih => rw [List.any_cons, List.any_cons, h x (by simp), ih (fun y hy => h y (by simp [hy]))]
structure Lev (ways : List S53) (sp : Int) : Prop where
 n : 1 ≤ ways.length ∧ ways.length ≤ 10
 spr : 0 ≤ sp ∧ sp ≤ 20
 cells : ∀ w ∈ ways, (w.f0.length : Int) = sp + 1
def cel (ways : List S53) (i : Nat) (t : Int) : Int := rdD 0 (rdD z53 ways (i : Int)).f0 t
section
variable {ways : List S53} {sp : Int} (hL : Lev ways sp)
include hL
theorem Lev.len (i : Nat) (hi : i < ways.length) : ((rdD z53 ways (i : Int)).f0.length : Int) = sp + 1 := by rw [rdn z53 _ i hi]; exact hL.cells _ (List.getElem_mem hi)
theorem specLevel (t : Int) (ht : 0 ≤ t ∧ t < sp) (k : Nat) (hk : 1000 ≤ k) : spec_LevelWays.f k ways t = some true := by
 have hn := hL.n
 have hs := hL.spr
 have h0 := hL.len 0 (by omega)
 have h0' : ((rdD z53 ways 0).f0.length : Int) = sp + 1 := h0
 unfold spec_LevelWays.f
 have hl := all_gen ways.length (by omega) (fun k v => spec_LevelWays.l0 k ways v) (fun _ => true) 0 true
  (fun kq i hi _ => by
    have hi2 := hL.len i hi
    show spec_LevelWays.l0 (kq + 1) ways _ = _
    rw [spec_LevelWays.l0, if_pos (by omega), if_pos (by omega), if_pos (by omega), if_pos rfl])
  (fun kq _ => by show spec_LevelWays.l0 (kq + 1) ways _ = _; rw [spec_LevelWays.l0, if_neg (by omega)]) ways.length 0 k (by omega) (by omega)
 replace hl : spec_LevelWays.l0 k ways 0 = _ := hl
 rw [l01In_eq, Option.bind_some, if_pos (by simp; omega), if_neg (by omega), if_pos (by omega), h0', w64e (by omega) (by omega), if_neg (by omega), hl]
 simp
theorem implLevel (t : Int) (ht : 0 ≤ t ∧ t < sp) (k : Nat) (hk : 1000 ≤ k) : impl_LevelWays.f k ways t = some true := by
 have hn := hL.n
 have hs := hL.spr
 have h0' : ((rdD z53 ways 0).f0.length : Int) = sp + 1 := hL.len 0 (by omega)
 unfold impl_LevelWays.f impl_areLevel.f slices_ContainsFunc_impl_Way_impl_Way_1.f slices_IndexFunc_impl_Way_impl_Way_1.f
 rw [if_pos (by omega), if_pos (by omega), index_gen z53 slices_IndexFunc_impl_Way_impl_Way_1.l0 (fun _ _ _ _ => rfl) ways (fun x => impl_areLevel_1.f x ways) (fun _ => false) (fun w hw => by
  unfold impl_areLevel_1.f
  rw [if_pos (by omega), h0', hL.cells w hw]
  simp) (by omega) k (by omega), Option.bind_some, fidx_any]
 simp only [Option.bind_some]
 rw [show (ways.any fun _ => false) = false by simp, if_pos (show (!false) = true from rfl), if_pos (by omega), if_pos (by omega), h0', w64e (by omega) (by omega), decide_eq_true (by omega)]
def meetB (ways : List S53) (t : Int) : Bool := (List.range' 0 ways.length).any fun i => (List.range' 0 i).any fun j => decide (cel ways i t = cel ways j t)
theorem specMeet (t : Int) (ht : 0 ≤ t ∧ t < sp) (k : Nat) (hk : 1000 ≤ k) : spec_MeetAt.f k ways t = some (meetB ways t || meetB ways (t + 1)) := by
 have hn := hL.n
 have hs := hL.spr
 have e1 : w64 (t + 1) = t + 1 := w64e (by omega) (by omega)
 unfold spec_MeetAt.f
 rw [specLevel hL t ht k hk, Option.bind_some, if_pos rfl]
 have inner : ∀ (i : Nat), i < ways.length → ∀ k, 50 ≤ k → spec_MeetAt.l1 k (i : Int) t ways 0 = some (if ((List.range' 0 i).any fun j => decide (cel ways i t = cel ways j t) || decide (cel ways i (t + 1) = cel ways j (t + 1))) = true then .inl true else .inr ()) := by
  intro i hi k hk
  have hli := hL.len i hi
  exact find_gen i (by omega) (fun k v => spec_MeetAt.l1 k (i : Int) t ways v) (fun j => decide (cel ways i t = cel ways j t) || decide (cel ways i (t + 1) = cel ways j (t + 1))) 0 (.inl true) (.inr ())
   (fun kq j hj _ => by
     have hlj := hL.len j (by omega)
     show spec_MeetAt.l1 (kq + 1) (i : Int) t ways _ = _
     rw [spec_MeetAt.l1, if_pos (by omega), if_pos (by omega), if_pos (by omega), if_pos (by omega), if_pos (by omega), if_pos (by omega), if_pos (by omega), e1]
     unfold cel
     by_cases h1 : rdD 0 (rdD z53 ways (i : Int)).f0 t = rdD 0 (rdD z53 ways (j : Int)).f0 t
     ·rw [if_pos h1, decide_eq_true h1]; rfl
     ·rw [if_neg h1, decide_eq_false h1, Bool.false_or, if_pos (by omega), if_pos (by omega), if_pos (by omega)]
      by_cases h2 : rdD 0 (rdD z53 ways (i : Int)).f0 (t + 1) = rdD 0 (rdD z53 ways (j : Int)).f0 (t + 1)
      ·rw [if_pos h2, decide_eq_true h2]; rfl
      ·rw [if_neg h2, decide_eq_false h2]; rfl)
   (fun kq _ => by show spec_MeetAt.l1 (kq + 1) (i : Int) t ways _ = _; rw [spec_MeetAt.l1, if_neg (by omega)]) i 0 k (by omega) (by omega)
 have outer := find_gen ways.length (by omega) (fun k v => spec_MeetAt.l0 k ways t v) (fun i => (List.range' 0 i).any fun j => decide (cel ways i t = cel ways j t) || decide (cel ways i (t + 1) = cel ways j (t + 1))) 100 true false
  (fun kq i hi hkq => by
    show spec_MeetAt.l0 (kq + 1) ways t _ = _
    rw [spec_MeetAt.l0, if_pos (by omega), inner i hi kq (by omega), Option.bind_some]
    cases (List.range' 0 i).any fun j => decide (cel ways i t = cel ways j t) || decide (cel ways i (t + 1) = cel ways j (t + 1)) <;> rfl)
  (fun kq _ => by show spec_MeetAt.l0 (kq + 1) ways t _ = _; rw [spec_MeetAt.l0, if_neg (by omega)]) ways.length 0 k (by omega) (by omega)
 refine outer.trans ?_
 unfold meetB
 rw [← any_or, any_congr (fun i hi => any_or (l := List.range' 0 i) (fun j => decide (cel ways i t = cel ways j t)) (fun j => decide (cel ways i (t + 1) = cel ways j (t + 1))))]
 split
 ·rename_i h; rw [h]
 ·rename_i h; rw [Bool.not_eq_true] at h; rw [h]
theorem implMeets (t : Int) (ht : 0 ≤ t ∧ t ≤ sp) (k : Nat) (hk : 1000 ≤ k) : impl_meets.f k ways t = some (meetB ways t) := by
 have hn := hL.n
 have hs := hL.spr
 unfold impl_meets.f
 have inner : ∀ (i : Nat), i < ways.length → ∀ k, 50 ≤ k → impl_meets.l1 k ways (i : Int) t 0 = some (if ((List.range' 0 i).any fun j => decide (cel ways i t = cel ways j t)) = true then .inl true else .inr ()) := by
  intro i hi k hk
  have hli := hL.len i hi
  have ht : (((ways.drop (0 : Int).toNat).take ((i : Int).toNat - (0 : Int).toNat)).length : Int) = (i : Int) := by simp; omega
  exact find_gen i (by omega) (fun k v => impl_meets.l1 k ways (i : Int) t v) (fun j => decide (cel ways i t = cel ways j t)) 0 (.inl true) (.inr ())
   (fun kq j hj _ => by
     have hlj := hL.len j (by omega)
     show impl_meets.l1 (kq + 1) ways (i : Int) t _ = _
     rw [impl_meets.l1, ht, if_pos (by omega), if_pos (by omega), if_pos (by omega), if_pos (by omega), if_pos (by omega), if_pos (by omega)]
     unfold cel
     by_cases h1 : rdD 0 (rdD z53 ways (i : Int)).f0 t = rdD 0 (rdD z53 ways (j : Int)).f0 t
     ·rw [if_pos h1, decide_eq_true h1]; rfl
     ·rw [if_neg h1, decide_eq_false h1]; rfl)
   (fun kq _ => by show impl_meets.l1 (kq + 1) ways (i : Int) t _ = _; rw [impl_meets.l1, ht, if_neg (by omega)]) i 0 k (by omega) (by omega)
 have outer := find_gen ways.length (by omega) (fun k v => impl_meets.l0 k ways t v) (fun i => (List.range' 0 i).any fun j => decide (cel ways i t = cel ways j t)) 100 true false
  (fun kq i hi hkq => by
    show impl_meets.l0 (kq + 1) ways t _ = _
    rw [impl_meets.l0, if_pos (by omega), if_pos (by omega), if_pos (by omega), inner i hi kq (by omega), Option.bind_some]
    cases (List.range' 0 i).any fun j => decide (cel ways i t = cel ways j t) <;> rfl)
  (fun kq _ => by show impl_meets.l0 (kq + 1) ways t _ = _; rw [impl_meets.l0, if_neg (by omega)]) ways.length 0 k (by omega) (by omega)
 refine outer.trans ?_
 unfold meetB
 split
 ·rename_i h; rw [h]
 ·rename_i h; rw [Bool.not_eq_true] at h; rw [h]
theorem implMeet (t : Int) (ht : 0 ≤ t ∧ t < sp) (k : Nat) (hk : 1000 ≤ k) : impl_MeetAt.f k ways t = some (meetB ways t || meetB ways (t + 1)) := by
 have hs := hL.spr
 unfold impl_MeetAt.f
 rw [implLevel hL t ht k hk, Option.bind_some, if_pos rfl, implMeets hL t (by omega) k hk, Option.bind_some, w64e (by omega) (by omega), implMeets hL (t + 1) (by omega) k hk]
 cases meetB ways t <;> rfl
omit hL in
theorem meet_inj {t : Int} (h : meetB ways t = false) {i j : Nat} (hi : i < ways.length) (hj : j < ways.length) (he : cel ways i t = cel ways j t) : i = j := by
 unfold meetB at h
 have key : ∀ a b : Nat, a < ways.length → b < a → cel ways a t ≠ cel ways b t := by
  intro a b ha hb e
  have h1 := List.any_eq_false.1 h a (by simp [List.mem_range'_1]; omega)
  rw [Bool.not_eq_true] at h1
  have h2 := List.any_eq_false.1 h1 b (by simp [List.mem_range'_1]; omega)
  simp at h2
  exact h2 e
 rcases Nat.lt_trichotomy i j with h1 | h1 | h1
 ·exact absurd he.symm (key j i hj h1)
 ·exact h1
 ·exact absurd he (key i j hi h1)
def nextI (ways : List S53) (t : Int) (i : Nat) : Int := fidx (fun j : Nat => decide (cel ways j t = cel ways i (t + 1))) (List.range' 0 ways.length) 0
theorem nextI_rng (t : Int) (i : Nat) : nextI ways t i < ways.length := by
 have := hL.n
 unfold nextI
 rcases fidx_spec (fun j : Nat => decide (cel ways j t = cel ways i (t + 1))) (List.range' 0 ways.length) 0 with ⟨h, _⟩ | ⟨j, hj, h, _⟩
 ·omega
 ·simp at hj; omega
omit hL in
theorem nextI_eq {t : Int} {i : Nat} (h : 0 ≤ nextI ways t i) : cel ways (nextI ways t i).toNat t = cel ways i (t + 1) := by
 unfold nextI at h ⊢
 rcases fidx_spec (fun j : Nat => decide (cel ways j t = cel ways i (t + 1))) (List.range' 0 ways.length) 0 with ⟨h1, _⟩ | ⟨j, hj, h1, h2, _⟩
 ·omega
 ·rw [h1]
  rw [List.getElem_range'] at h2
  simp at h2
  rw [show ((0 + j : Nat) : Int).toNat = j by omega]
  exact h2
omit hL in
theorem next_inj {t : Int} (hm : meetB ways (t + 1) = false) {i j : Nat} (hi : i < ways.length) (hj : j < ways.length) (h0 : 0 ≤ nextI ways t i) (he : nextI ways t i = nextI ways t j) : i = j := by
 have h1 := nextI_eq h0
 have h2 := nextI_eq (he ▸ h0)
 rw [he] at h1
 exact meet_inj hm hi hj (h1.symm.trans h2)
omit hL in
theorem last_eq (c : Nat → Bool) : ∀ (d i : Nat) (a : Int), (∀ x y, i ≤ x → x < i + d → i ≤ y → y < i + d → c x = true → c y = true → x = y) →
  (List.range' i d).foldl (fun a j => if c j = true then (j : Int) else a) a = if (List.range' i d).any c = true then fidx c (List.range' i d) i else a := by
 intro d
 induction d with
 | zero => intro i a _; rfl
 | succ d ih =>
   intro i a hu
   rw [List.range'_succ, List.foldl_cons, List.any_cons, fidx, ih (i + 1) _ (fun x y h1 h2 h3 h4 => hu x y (by omega) (by omega) (by omega) (by omega))]
   cases hc : c i
   ·simp only [Bool.false_eq_true, if_false, Bool.false_or]
   ·have hf : (List.range' (i + 1) d).any c = false := by
     rw [List.any_eq_false]
     intro y hy
     simp [List.mem_range'_1] at hy
     rw [Bool.not_eq_true]
     cases hcy : c y
     ·rfl
     ·have := hu i y (by omega) (by omega) (by omega) (by omega) hc hcy
      omega
    rw [hf]
    simp
theorem specNext {t : Int} (hm : meetB ways t = false) (ht : 0 ≤ t ∧ t < sp) (v : Nat) (hv : v < ways.length) (k : Nat) (hk : 100 ≤ k) : spec_l12Ring.l1 k ways t (v : Int) 0 (-1) = some (nextI ways t v) := by
 have hn := hL.n
 have hs := hL.spr
 have hlv := hL.len v hv
 have e1 : w64 (t + 1) = t + 1 := w64e (by omega) (by omega)
 have go : ∀ (d i k : Nat) (a : Int), i + d = ways.length → d < k → spec_l12Ring.l1 k ways t (v : Int) (i : Int) a = some ((List.range' i d).foldl (fun a j => if decide (cel ways j t = cel ways v (t + 1)) = true then (j : Int) else a) a) := by
  intro d
  induction d with
  | zero =>
    intro i k a hi hk
    obtain ⟨k, rfl⟩ := ks hk
    rw [spec_l12Ring.l1, if_neg (by omega)]
    rfl
  | succ d ih =>
    intro i k a hi hk
    obtain ⟨k, rfl⟩ := ks hk
    have hli := hL.len i (by omega)
    rw [spec_l12Ring.l1, if_pos (by omega), if_pos (by omega), if_pos (by omega), if_pos (by omega), if_pos (by omega), if_pos (by omega), e1, if_pos (by omega), if_pos (by omega), wn (by omega), List.range'_succ, List.foldl_cons]
    unfold cel
    by_cases h1 : rdD 0 (rdD z53 ways (i : Int)).f0 t = rdD 0 (rdD z53 ways (v : Int)).f0 (t + 1)
    ·rw [if_pos h1, if_pos (decide_eq_true h1)]
     exact ih (i + 1) k _ (by omega) (by omega)
    ·rw [if_neg h1, if_neg (by simpa using h1)]
     exact ih (i + 1) k _ (by omega) (by omega)
 have h := go ways.length 0 k (-1) (by omega) (by omega)
 rw [last_eq (fun j => decide (cel ways j t = cel ways v (t + 1))) ways.length 0 (-1) (fun x y _ hx _ hy h1 h2 => by
  simp only [decide_eq_true_eq] at h1 h2
  exact meet_inj hm (by omega) (by omega) (h1.trans h2.symm))] at h
 refine h.trans (congrArg some ?_)
 unfold nextI
 split
 ·rfl
 ·rename_i h1
  rw [Bool.not_eq_true, List.any_eq_false] at h1
  rcases fidx_spec (fun j : Nat => decide (cel ways j t = cel ways v (t + 1))) (List.range' 0 ways.length) 0 with ⟨h2, _⟩ | ⟨j, hj, h2, h3, _⟩
  ·exact h2.symm
  ·exact absurd h3 (h1 _ (List.getElem_mem hj))
theorem implNext {t : Int} (ht : 0 ≤ t ∧ t < sp) (v : Nat) (hv : v < ways.length) (k : Nat) (hk : 100 ≤ k) : slices_IndexFunc_impl_Way_impl_Way_1_1.f k ways (fun x => impl_nextOf_1.f x t (rdD z53 ways (v : Int))) = some (nextI ways t v) := by
 have hn := hL.n
 have hs := hL.spr
 have hlv := hL.len v hv
 have e1 : w64 (t + 1) = t + 1 := w64e (by omega) (by omega)
 unfold slices_IndexFunc_impl_Way_impl_Way_1_1.f
 rw [index_gen z53 slices_IndexFunc_impl_Way_impl_Way_1_1.l0 (fun _ _ _ _ => rfl) ways _ (fun w => decide (rdD 0 w.f0 t = rdD 0 (rdD z53 ways (v : Int)).f0 (t + 1))) (fun w hw => by
  have := hL.cells w hw
  unfold impl_nextOf_1.f
  rw [if_pos (by omega), if_pos (by omega), e1, if_pos (by omega), if_pos (by omega)]) (by omega) k (by omega)]
 refine congrArg some ?_
 unfold nextI
 have go : ∀ (d i : Nat), i + d = ways.length → fidx (fun w : S53 => decide (rdD 0 w.f0 t = rdD 0 (rdD z53 ways (v : Int)).f0 (t + 1))) (ways.drop i) i = fidx (fun j : Nat => decide (cel ways j t = cel ways v (t + 1))) (List.range' i d) i := by
  intro d
  induction d with
  | zero => intro i hi; rw [List.drop_eq_nil_of_le (by omega)]; rfl
  | succ d ih =>
    intro i hi
    rw [List.range'_succ, fidx, List.drop_eq_getElem_cons (show i < ways.length by omega), fidx, ih (i + 1) (by omega)]
    unfold cel
    rw [rdn z53 ways i (by omega)]
 have := go ways.length 0 (by omega)
 rwa [List.drop_zero] at this
end
def orb (nx : Nat → Int) (i : Nat) : Nat → Int
 | 0 => (i : Int)
 | m + 1 => if orb nx i m < 0 then -1 else nx (orb nx i m).toNat
def srch (Y : Nat → Int) (i : Int) : Nat → Nat → Int
 | 0, _ => 0
 | d + 1, m => if Y m < 0 then 0 else if Y m = i then (m : Int) else srch Y i d (m + 1)
theorem srch_last (Y : Nat → Int) (i : Int) : ∀ (d m : Nat), ((∀ j, m ≤ j → j < m + d → 0 ≤ Y j ∧ Y j ≠ i) → False) → srch Y i (d + 1) m = srch Y i d m := by
 intro d
 induction d with
 | zero => intro m h; exact (h fun j h1 h2 => by omega).elim
 | succ d ih =>
   intro m h
   show (if Y m < 0 then 0 else if Y m = i then (m : Int) else srch Y i (d + 1) (m + 1)) = (if Y m < 0 then 0 else if Y m = i then (m : Int) else srch Y i d (m + 1))
   by_cases h1 : Y m < 0
   ·rw [if_pos h1, if_pos h1]
   ·rw [if_neg h1, if_neg h1]
    by_cases h2 : Y m = i
    ·rw [if_pos h2, if_pos h2]
    ·rw [if_neg h2, if_neg h2, ih (m + 1) (fun h3 => h fun j hj1 hj2 => by
      by_cases e : j = m
      ·subst e; exact ⟨by omega, h2⟩
      ·exact h3 j (by omega) (by omega))]
theorem srch_rng (Y : Nat → Int) (i : Int) : ∀ (d m : Nat), 1 ≤ m → 0 ≤ srch Y i d m ∧ srch Y i d m < (m + d : Nat) := by
 intro d
 induction d with
 | zero => intro m h; rw [srch]; omega
 | succ d ih =>
   intro m h
   rw [srch]
   split
   ·omega
   ·split
    ·omega
    ·have := ih (m + 1) (by omega); omega
theorem nodup_le : ∀ (n : Nat) (l : List Nat), l.Nodup → (∀ x ∈ l, x < n) → l.length ≤ n := by
 intro n
 induction n with
 | zero =>
   intro l _ h
   cases l with
   | nil => simp
   | cons x t => exact absurd (h x (by simp)) (by omega)
 | succ n ih =>
   intro l hd h
   by_cases hn : n ∈ l
   ·have h1 := ih (l.erase n) (hd.erase n) (fun x hx => by
     have h2 := h x (List.mem_of_mem_erase hx)
     have h3 : x ≠ n := fun e => by subst e; exact (List.Nodup.not_mem_erase hd) hx
     omega)
    rw [List.length_erase_of_mem hn] at h1
    omega
   ·have := ih l hd (fun x hx => by have h2 := h x hx; have h3 : x ≠ n := fun e => hn (e ▸ hx); omega)
    omega
theorem ring_end (nx : Nat → Int) (n i : Nat) (hi : i < n) (hr : ∀ j, j < n → nx j < n) (hinj : ∀ a b, a < n → b < n → 0 ≤ nx a → nx a = nx b → a = b) : srch (orb nx i) i (n + 1) 1 = srch (orb nx i) i n 1 := by
 refine srch_last _ _ n 1 fun h => ?_
 have hpos : ∀ j, j ≤ n → 0 ≤ orb nx i j ∧ orb nx i j < n := by
  intro j
  induction j with
  | zero => intro _; exact ⟨by simp [orb], by simp [orb]; omega⟩
  | succ j ih =>
    intro hj
    have h1 := ih (by omega)
    refine ⟨(h (j + 1) (by omega) (by omega)).1, ?_⟩
    rw [orb, if_neg (by omega)]
    exact hr _ (by omega)
 have hstep : ∀ j, j < n → orb nx i (j + 1) = nx (orb nx i j).toNat := by
  intro j hj
  have := hpos j (by omega)
  rw [orb, if_neg (by omega)]
 have hback : ∀ a b, a < b → b ≤ n → orb nx i a = orb nx i b → False := by
  intro a
  induction a with
  | zero =>
    intro b h1 h2 e
    exact (h b (by omega) (by omega)).2 e.symm
  | succ a ih =>
    intro b h1 h2 e
    obtain ⟨b, rfl⟩ : ∃ c, b = c + 1 := ⟨b - 1, by omega⟩
    have ha := hpos a (by omega)
    have hb := hpos b (by omega)
    rw [hstep a (by omega), hstep b (by omega)] at e
    have h3 := hpos (a + 1) (by omega)
    rw [hstep a (by omega)] at h3
    have h4 := hinj _ _ (by omega) (by omega) h3.1 e
    exact ih b (by omega) (by omega) (by omega)
 have h5 := nodup_le n ((List.range' 0 (n + 1)).map fun j => (orb nx i j).toNat) (by
  rw [List.nodup_iff_pairwise_ne, List.pairwise_map]
  have hp : (List.range' 0 (n + 1)).Pairwise (· < ·) := List.pairwise_lt_range'
  refine hp.imp_of_mem fun {a b} ha hb hab e => ?_
  simp [List.mem_range'_1] at ha hb
  have h6 := hpos a (by omega)
  have h7 := hpos b (by omega)
  exact hback a b hab (by omega) (by omega)) (fun x hx => by
   obtain ⟨j, hj, rfl⟩ := List.mem_map.1 hx
   simp [List.mem_range'_1] at hj
   have := hpos j (by omega)
   omega)
 simp at h5
 omega
end Go.Proofs.YtfhjipfkaemapaaGreat.Pu