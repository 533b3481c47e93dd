/- Plain laws about what the functions compute: cells used, grids with walls, free cells, what is asked. -/
import Derived.Test.YtfhjipfkaemapaaGreatPuB
import Derived.Test.YtfhjipfkaemapaaGreatPuE
import Derived.Laws.RangeString
namespace Go.Proofs.YtfhjipfkaemapaaGreat.Pu
open Go Go.Av Go.Proofs Go.Proofs.YtfhjipfkaemapaaGreat.V
set_option linter.unusedVariables false
set_option linter.unusedSimpArgs false
def ascB (xs : List Int) : Bool := (List.range' 0 (xs.length - 1)).all fun i => decide (rdD 0 xs (i : Nat) < rdD 0 xs ((i + 1 : Nat) : Int))
def okCells (s : ByteArray) (xs : List Int) : Bool := xs.all (freeB s) && ascB xs
theorem specCells (g : S24) (hg : gridB g = true) (xs : List Int) (hx : xs.length ≤ 1048576) (k : Nat) (hk : 2300000 ≤ k) : spec_l10Cells.f k g xs = some (okCells g.f2 xs) := by
 have h4 := gridB_size hg
 have hl := all_gen xs.length (by omega) (fun k v => spec_l10Cells.l0 k xs g v) (fun i => freeB g.f2 (rdD 0 xs (i : Nat)) && (decide (i = 0) || decide (rdD 0 xs ((i - 1 : Nat) : Int) < rdD 0 xs (i : Nat)))) 1200000 true
  (fun kq i hi hkq => by
    show spec_l10Cells.l0 (kq + 1) xs g _ = _
    rw [spec_l10Cells.l0, if_pos (by omega), if_pos (by omega), specFree g _ (by omega) kq (by omega), hg, Option.bind_some, Bool.true_and]
    cases freeB g.f2 (rdD 0 xs (i : Nat))
    ·rfl
    ·rw [if_pos rfl, Bool.true_and]
     by_cases h2 : i = 0
     ·subst h2
      rw [if_neg (by omega)]
      rfl
     ·have e1 : w64 ((i : Int) - 1) = ((i - 1 : Nat) : Int) := by rw [w64e (by omega) (by omega)]; omega
      rw [if_pos (by omega), e1, if_pos (by omega), if_pos (by omega), decide_eq_false h2, Bool.false_or]
      by_cases h3 : rdD 0 xs (i : Int) ≤ rdD 0 xs ((i - 1 : Nat) : Int)
      ·rw [if_pos h3, show decide (rdD 0 xs ((i - 1 : Nat) : Int) < rdD 0 xs (i : Int)) = false from decide_eq_false (by omega)]; rfl
      ·rw [if_neg h3, show decide (rdD 0 xs ((i - 1 : Nat) : Int) < rdD 0 xs (i : Int)) = true from decide_eq_true (by omega)]; rfl)
  (fun kq _ => by show spec_l10Cells.l0 (kq + 1) xs g _ = _; rw [spec_l10Cells.l0, if_neg (by omega)]) xs.length 0 k (by omega) (by omega)
 rw [Bool.and_true] at hl
 unfold spec_l10Cells.f
 refine hl.trans (congrArg some ?_)
 unfold okCells ascB
 rw [← range_all xs (freeB g.f2) (fun i => freeB g.f2 (rdD 0 xs (i : Nat))) (fun i hi => by rw [rdn 0 xs i hi])]
 rw [Bool.eq_iff_iff, Bool.and_eq_true, List.all_eq_true, List.all_eq_true, List.all_eq_true]
 constructor
 ·intro h
  refine ⟨fun i hi => ?_, fun i hi => ?_⟩
  ·have := h i hi
   rw [Bool.and_eq_true] at this
   exact this.1
  ·simp [List.mem_range'_1] at hi
   have := h (i + 1) (by simp [List.mem_range'_1]; omega)
   rw [Bool.and_eq_true, decide_eq_false (show ¬ i + 1 = 0 by omega), Bool.false_or] at this
   exact this.2
 ·rintro ⟨h1, h2⟩ i hi
  rw [Bool.and_eq_true]
  refine ⟨h1 i hi, ?_⟩
  simp [List.mem_range'_1] at hi
  by_cases h0 : i = 0
  ·simp [h0]
  ·rw [decide_eq_false h0, Bool.false_or]
   have := h2 (i - 1) (by simp [List.mem_range'_1]; omega)
   rwa [show i - 1 + 1 = i by omega] at this
theorem implAsc (xs : List Int) (hx : xs.length ≤ 1048576) (k : Nat) (hk : 1200000 ≤ k) : impl_isAscending.f k xs = some (ascB xs) := by
 unfold impl_isAscending.f ascB
 by_cases h0 : xs.length = 0
 ·obtain ⟨k, rfl⟩ := ks (show 0 < k by omega)
  rw [impl_isAscending.l0, if_neg (by omega), h0]
  rfl
 have hl := all_gen (xs.length - 1) (by omega) (fun k v => impl_isAscending.l0 k xs (v + 1)) (fun i => decide (rdD 0 xs (i : Nat) < rdD 0 xs ((i + 1 : Nat) : Int))) 0 true
  (fun kq i hi _ => by
    show impl_isAscending.l0 (kq + 1) xs _ = if _ then impl_isAscending.l0 kq xs _ else _
    have e0 : w64 ((i : Int) + 1) = (i : Int) + 1 := w64e (by omega) (by omega)
    have e2 : w64 ((i : Int) + 1 + 1) = (i : Int) + 1 + 1 := w64e (by omega) (by omega)
    have e1 : w64 ((i : Int) + 1 - 1) = (i : Int) := by rw [w64e (by omega) (by omega)]; omega
    have e3 : ((i + 1 : Nat) : Int) = (i : Int) + 1 := by omega
    rw [impl_isAscending.l0, if_pos (by omega), e1, if_pos (by omega), if_pos (by omega), if_pos (by omega), e0, e2, e3]
    by_cases h3 : rdD 0 xs ((i : Int) + 1) ≤ rdD 0 xs (i : Int)
    ·rw [if_pos h3, show decide (rdD 0 xs (i : Int) < rdD 0 xs ((i : Int) + 1)) = false from decide_eq_false (by omega)]; rfl
    ·rw [if_neg h3, show decide (rdD 0 xs (i : Int) < rdD 0 xs ((i : Int) + 1)) = true from decide_eq_true (by omega)]; rfl)
  (fun kq _ => by show impl_isAscending.l0 (kq + 1) xs _ = _; rw [impl_isAscending.l0, if_neg (by omega)]) (xs.length - 1) 0 k (by omega) (by omega)
 rw [Bool.and_true] at hl
 exact hl
theorem implAreFree (g : S24) (hg : gridB g = true) (xs : List Int) (hx : xs.length ≤ 1048576) (k : Nat) (hk : 1200000 ≤ k) : impl_areFree.f k g xs = some (xs.all (freeB g.f2)) := by
 have h4 := gridB_size hg
 unfold impl_areFree.f
 rw [implGrid g (by omega) k (by omega), hg, Option.bind_some, if_pos rfl, contains3 xs _ (fun c => !freeB g.f2 c) (fun c _ => by unfold impl_areFree_1.f; rw [implFree]; rfl) (by omega) k (by omega), Option.bind_some, List.not_any_eq_all_not]
 simp
def usedL (ways : List S53) : List Int := ways.flatMap fun w => w.f0
theorem used_step (ways : List S53) (i : Nat) (hi : i < ways.length) : usedL (ways.take i) ++ ways[i].f0 = usedL (ways.take (i + 1)) := by
 unfold usedL
 rw [List.take_succ_eq_append_getElem hi, List.flatMap_append]
 simp
theorem usedT_len (ways : List S53) (hw : ∀ w ∈ ways, w.f0.length ≤ 21) (h : ways.length ≤ 10) : (usedL ways).length ≤ 210 := by
 have go : ∀ l : List S53, (∀ w ∈ l, w.f0.length ≤ 21) → (usedL l).length ≤ 21 * l.length := by
  intro l
  induction l with
  | nil => intro _; simp [usedL]
  | cons w t ih =>
    intro hw
    have h2 := ih (fun x hx => hw x (by simp [hx]))
    have h1 := hw w (by simp)
    unfold usedL at h2 ⊢
    rw [List.flatMap_cons, List.length_append, List.length_cons]
    omega
 have := go ways hw
 omega
section
variable (ways : List S53) (hw : ∀ w ∈ ways, w.f0.length ≤ 21) (hn : ways.length ≤ 10)
include hw hn
theorem take_len (i : Nat) : (usedL (ways.take i)).length ≤ 210 := usedT_len _ (fun w h => hw w (List.mem_of_mem_take h)) (by rw [List.length_take]; omega)
theorem specUsed (k : Nat) (hk : 100000 ≤ k) : spec_CellsUsed.f k ways = some (sortL (usedL ways)) := by
 have go : ∀ (d i k : Nat), i + d = ways.length → d + 10000 < k → spec_CellsUsed.l0 k ways (usedL (ways.take i)) (i : Int) = some (sortL (usedL ways)) := by
  intro d
  induction d with
  | zero =>
    intro i k hi hk
    obtain ⟨k, rfl⟩ := ks (show 0 < k by omega)
    have := take_len ways hw hn ways.length
    rw [List.take_length] at this
    rw [spec_CellsUsed.l0, if_neg (by omega), List.take_of_length_le (by omega), sorted_same _ (by omega) k (by omega)]
    rfl
  | succ d ih =>
    intro i k hi hk
    obtain ⟨k, rfl⟩ := ks (show 0 < k by omega)
    have hil : i < ways.length := by omega
    have h1 := take_len ways hw hn i
    have h2 := hw _ (List.getElem_mem hil)
    rw [spec_CellsUsed.l0, if_pos (by omega), if_pos (by omega), rdn z53 _ i hil, if_pos (by omega), used_step _ _ hil, wn (by omega)]
    exact ih (i + 1) k (by omega) (by omega)
 exact go ways.length 0 k (by omega) (by omega)
theorem implUsed (k : Nat) (hk : 100000 ≤ k) : impl_CellsUsed.f k ways = some (sortL (usedL ways)) := by
 have go : ∀ (d i k : Nat), i + d = ways.length → d < k → impl_CellsUsed.l0 k ways (usedL (ways.take i)) (i : Int) = some (sortL (usedL ways)) := by
  intro d
  induction d with
  | zero =>
    intro i k hi hk
    obtain ⟨k, rfl⟩ := ks (show 0 < k by omega)
    have := take_len ways hw hn ways.length
    rw [List.take_length] at this
    rw [impl_CellsUsed.l0, if_neg (by omega), List.take_of_length_le (by omega), ordered_same _ (by omega)]
    rfl
  | succ d ih =>
    intro i k hi hk
    obtain ⟨k, rfl⟩ := ks (show 0 < k by omega)
    have hil : i < ways.length := by omega
    have h1 := take_len ways hw hn i
    have h2 := hw _ (List.getElem_mem hil)
    rw [impl_CellsUsed.l0, if_pos (by omega), if_pos (by omega), rdn z53 _ i hil, if_pos (by omega), used_step _ _ hil, wn (by omega)]
    exact ih (i + 1) k (by omega) (by omega)
 exact go ways.length 0 k (by omega) (by omega)
end
theorem sortL_len (l : List Int) (h : l.length ≤ 210) : (sortL l).length ≤ 210 := by
 obtain ⟨r, h1, h2, h3, h4⟩ := sorted_ev l.length l (4 * l.length + 10) (Nat.le_refl _) (by omega) (Nat.le_refl _)
 have h5 := sorted_same l (by omega) (4 * l.length + 10) (Nat.le_refl _)
 rw [h1] at h5
 have h6 := Option.some.inj h5
 unfold sortL
 rw [← h6]
 omega
theorem getD_set (out : List Int) (i p : Nat) (v : Int) (hi : i < out.length) : (out.set i v).getD p 0 = if p = i then v else out.getD p 0 := by
 by_cases h : p = i
 ·subst h; simp [List.getD, hi]
 ·rw [if_neg h]; simp [List.getD, List.getElem?_set, show ¬ i = p from fun e => h e.symm]
theorem list_ext {a b : List Int} (hl : a.length = b.length) (h : ∀ j, j < a.length → a.getD j 0 = b.getD j 0) : a = b := by
 apply List.ext_getElem hl
 intro i h1 h2
 have := h i h1
 simpa [List.getD, List.getElem?_eq_getElem h1, List.getElem?_eq_getElem h2] using this
def paintL (b : List Int) (P : Nat → Bool) : List Int := (List.range b.length).map fun j => if P j = true then 35 else b.getD j 0
theorem paintL_len (b : List Int) (P : Nat → Bool) : (paintL b P).length = b.length := by simp [paintL]
theorem paintL_get (b : List Int) (P : Nat → Bool) (j : Nat) (hj : j < b.length) : (paintL b P).getD j 0 = if P j = true then 35 else b.getD j 0 := by
 unfold paintL
 simp [List.getD, hj]
theorem paint_bytes (s : ByteArray) (P : Nat → Bool) : isBytes (paintL (bytesOf s) P) = true := by
 unfold isBytes
 rw [List.all_eq_true]
 intro x hx
 unfold paintL at hx
 obtain ⟨j, hj, rfl⟩ := List.mem_map.1 hx
 simp only [List.mem_range] at hj
 split
 ·decide
 ·rw [bytesOf_length] at hj
  rw [bytesOf_at s j hj]
  unfold bt
  simp only [Int.toNat_natCast]
  rw [dif_pos hj]
  have := (s[j]).toNat_lt
  rw [Bool.and_eq_true, decide_eq_true_eq, decide_eq_true_eq]
  omega
theorem specWalls (g : S24) (hg : gridB g = true) (cs : List Int) (hc : cs.length ≤ 1048576) (k : Nat) (hk : 2300000 ≤ k) : spec_Walled.f k g cs = some ⟨g.f0, g.f1, strOf (paintL (bytesOf g.f2) fun j => cs.contains (j : Int))⟩ := by
 have h4 := gridB_size hg
 unfold spec_Walled.f
 rw [specGrid g (by omega) k (by omega), hg, Option.bind_some, if_pos rfl, if_pos (by unfold maxLen; omega)]
 have go : ∀ (d i k : Nat) (b : List Int), i + d = cs.length → d < k → b.length = (bytesOf g.f2).length → (∀ j, j < b.length → b.getD j 0 = if (cs.take i).contains (j : Int) = true then 35 else (bytesOf g.f2).getD j 0) →
   spec_Walled.l0 k cs g b (i : Int) = some ⟨g.f0, g.f1, strOf (paintL (bytesOf g.f2) fun j => cs.contains (j : Int))⟩ := by
  intro d
  induction d with
  | zero =>
    intro i k b hi hk hb hget
    obtain ⟨k, rfl⟩ := ks hk
    have e : b = paintL (bytesOf g.f2) fun j => cs.contains (j : Int) := list_ext (by rw [paintL_len, hb]) fun j hj => by
     rw [hget j hj, paintL_get _ _ _ (by omega), List.take_of_length_le (by omega)]
    rw [spec_Walled.l0, if_neg (by omega), e, if_pos (paint_bytes _ _)]
  | succ d ih =>
    intro i k b hi hk hb hget
    obtain ⟨k, rfl⟩ := ks hk
    have hil : i < cs.length := by omega
    have ht : ∀ j : Nat, (cs.take (i + 1)).contains (j : Int) = ((cs.take i).contains (j : Int) || decide ((j : Int) = cs[i])) := by
     intro j
     rw [List.take_succ_eq_append_getElem hil, Bool.eq_iff_iff]
     simp only [List.contains_iff_mem, List.mem_append, List.mem_singleton, Bool.or_eq_true, decide_eq_true_eq]
    rw [spec_Walled.l0, if_pos (by omega), if_pos (by omega), rdn 0 _ i hil, wn (by omega)]
    by_cases h1 : 0 ≤ cs[i]
    ·rw [if_pos h1]
     by_cases h2 : cs[i] < (b.length : Int)
     ·rw [if_pos h2]
      refine ih (i + 1) k _ (by omega) (by omega) (by rw [List.length_set]; exact hb) (fun j hj => ?_)
      rw [List.length_set] at hj
      rw [getD_set _ _ _ _ (by omega), ht, hget j hj]
      by_cases h3 : j = cs[i].toNat
      ·rw [if_pos h3, if_pos (by rw [Bool.or_eq_true]; exact .inr (decide_eq_true (by omega)))]
      ·rw [if_neg h3, decide_eq_false (by omega), Bool.or_false]
     ·rw [if_neg h2]
      refine ih (i + 1) k _ (by omega) (by omega) hb (fun j hj => ?_)
      rw [ht, hget j hj, decide_eq_false (by omega), Bool.or_false]
    ·rw [if_neg h1]
     refine ih (i + 1) k _ (by omega) (by omega) hb (fun j hj => ?_)
     rw [ht, hget j hj, decide_eq_false (by omega), Bool.or_false]
 exact go cs.length 0 k _ (by omega) (by omega) rfl (fun j hj => by simp)
theorem implWalls (g : S24) (hg : gridB g = true) (cs : List Int) (hc : cs.length ≤ 1048576) (k : Nat) (hk : 2300000 ≤ k) : impl_Walled.f k g cs = some ⟨g.f0, g.f1, strOf (paintL (bytesOf g.f2) fun j => cs.contains (j : Int))⟩ := by
 have h4 := gridB_size hg
 have hbl := bytesOf_length g.f2
 unfold impl_Walled.f
 rw [implGrid g (by omega) k (by omega), hg, Option.bind_some, if_pos rfl, if_pos (by unfold maxLen; omega)]
 have go : ∀ (d i k : Nat) (b : List Int), i + d = (bytesOf g.f2).length → d + 1100000 < k → b.length = (bytesOf g.f2).length → (∀ j, j < b.length → b.getD j 0 = if (decide (j < i) && cs.contains (j : Int)) = true then 35 else (bytesOf g.f2).getD j 0) →
   impl_Walled.l0 k g cs b (i : Int) = some ⟨g.f0, g.f1, strOf (paintL (bytesOf g.f2) fun j => cs.contains (j : Int))⟩ := by
  intro d
  induction d with
  | zero =>
    intro i k b hi hk hb hget
    obtain ⟨k, rfl⟩ := ks (show 0 < k by omega)
    have e : b = paintL (bytesOf g.f2) fun j => cs.contains (j : Int) := list_ext (by rw [paintL_len, hb]) fun j hj => by
     rw [hget j hj, paintL_get _ _ _ (by omega), decide_eq_true (by omega), Bool.true_and]
    rw [impl_Walled.l0, if_neg (by omega), e, if_pos (paint_bytes _ _)]
  | succ d ih =>
    intro i k b hi hk hb hget
    obtain ⟨k, rfl⟩ := ks (show 0 < k by omega)
    rw [impl_Walled.l0, if_pos (by omega), implHas cs _ (by omega) k (by omega), Option.bind_some, wn (by omega)]
    cases h1 : cs.contains (i : Int)
    ·rw [if_neg (by simp)]
     refine ih (i + 1) k _ (by omega) (by omega) hb (fun j hj => ?_)
     rw [hget j hj]
     by_cases h3 : j = i
     ·subst h3
      rw [h1]; simp
     ·by_cases h5 : j < i
      ·rw [decide_eq_true h5, decide_eq_true (by omega)]
      ·rw [decide_eq_false h5, decide_eq_false (by omega)]
    ·rw [if_pos rfl, if_pos (by omega), if_pos (by omega)]
     refine ih (i + 1) k _ (by omega) (by omega) (by rw [List.length_set]; exact hb) (fun j hj => ?_)
     rw [List.length_set] at hj
     rw [getD_set _ _ _ _ (by omega), hget j hj, Int.toNat_natCast]
     by_cases h3 : j = i
     ·subst h3
      rw [if_pos rfl, decide_eq_true (by omega), h1]
      rfl
     ·rw [if_neg h3]
      by_cases h5 : j < i
      ·rw [decide_eq_true h5, decide_eq_true (by omega)]
      ·rw [decide_eq_false h5, decide_eq_false (by omega)]
 exact go (bytesOf g.f2).length 0 k _ (by omega) (by omega) rfl (fun j hj => by simp)
def freeL (g : S24) : List Int := ((List.range' 0 g.f2.size).filter fun i => freeB g.f2 (i : Nat)).map fun (i : Nat) => (i : Int)
theorem filter_step (s : ByteArray) (i d : Nat) (acc : List Int) : acc ++ ((List.range' i (d + 1)).filter fun i => freeB s (i : Nat)).map (fun (i : Nat) => (i : Int)) = (if freeB s (i : Nat) = true then acc ++ [(i : Int)] else acc) ++ ((List.range' (i + 1) d).filter fun i => freeB s (i : Nat)).map (fun (i : Nat) => (i : Int)) := by
 rw [List.range'_succ, List.filter_cons]
 split <;> simp
theorem freeL_len (g : S24) : (freeL g).length ≤ g.f2.size := by
 unfold freeL
 rw [List.length_map]
 have := List.length_filter_le (fun i => freeB g.f2 (i : Nat)) (List.range' 0 g.f2.size)
 simpa using this
theorem freeL_mem (g : S24) (c : Int) : c ∈ freeL g ↔ freeB g.f2 c = true := by
 unfold freeL
 simp only [List.mem_map, List.mem_filter, List.mem_range'_1]
 constructor
 ·rintro ⟨i, ⟨_, h⟩, rfl⟩
  exact h
 ·intro h
  have := freeB_rng h
  exact ⟨c.toNat, ⟨by omega, by rw [show ((c.toNat : Nat) : Int) = c by omega]; exact h⟩, by omega⟩
theorem specFreeCells (g : S24) (hg : gridB g = true) (k : Nat) (hk : 1200000 ≤ k) : spec_FreeCells.f k g = some (freeL g) := by
 have h4 := gridB_size hg
 have go : ∀ (d i k : Nat) (acc : List Int), i + d = g.f2.size → d + 1100000 < k → acc.length ≤ i → spec_FreeCells.l0 k g acc (i : Int) = some (acc ++ ((List.range' i d).filter fun i => freeB g.f2 (i : Nat)).map fun (i : Nat) => (i : Int)) := by
  intro d
  induction d with
  | zero =>
    intro i k acc hi hk ha
    obtain ⟨k, rfl⟩ := ks (show 0 < k by omega)
    rw [spec_FreeCells.l0, if_neg (by omega)]
    simp
  | succ d ih =>
    intro i k acc hi hk ha
    obtain ⟨k, rfl⟩ := ks (show 0 < k by omega)
    rw [spec_FreeCells.l0, if_pos (by omega), if_pos (by omega), specFree g _ (by omega) k (by omega), hg, Option.bind_some, Bool.true_and, wn (by omega), filter_step]
    cases freeB g.f2 (i : Nat)
    ·rw [if_neg (by simp), if_neg (by simp)]
     exact ih (i + 1) k acc (by omega) (by omega) (by omega)
    ·rw [if_pos rfl, if_pos (by omega), if_pos rfl]
     exact ih (i + 1) k _ (by omega) (by omega) (by simp; omega)
 exact go g.f2.size 0 k [] (by omega) (by omega) (by simp)
theorem ascii_of {g : S24} (hg : gridB g = true) (i : Nat) (hi : i < g.f2.size) : (Utf8.decode g.f2 i).2 = 1 := by
 unfold gridB at hg
 rw [Bool.and_eq_true] at hg
 have h1 := List.all_eq_true.1 hg.2 i (by simp [List.mem_range'_1]; omega)
 unfold kindB bt at h1
 simp only [Int.toNat_natCast, dif_pos hi, decide_eq_true_eq] at h1
 rw [decode_ascii g.f2 i hi (by omega)]
theorem implFreeCells (g : S24) (hg : gridB g = true) (k : Nat) (hk : 1200000 ≤ k) : impl_FreeCells.f k g = some (freeL g) := by
 have h4 := gridB_size hg
 unfold impl_FreeCells.f
 rw [implGrid g (by omega) k (by omega), hg, Option.bind_some, if_pos rfl]
 have go : ∀ (d i k : Nat) (acc : List Int), i + d = g.f2.size → d < k → acc.length ≤ i → impl_FreeCells.l0 k g acc i = some (acc ++ ((List.range' i d).filter fun i => freeB g.f2 (i : Nat)).map fun (i : Nat) => (i : Int)) := by
  intro d
  induction d with
  | zero =>
    intro i k acc hi hk ha
    obtain ⟨k, rfl⟩ := ks (show 0 < k by omega)
    rw [impl_FreeCells.l0, if_neg (by omega)]
    simp
  | succ d ih =>
    intro i k acc hi hk ha
    obtain ⟨k, rfl⟩ := ks (show 0 < k by omega)
    rw [impl_FreeCells.l0, if_pos (by omega), implFree, Option.bind_some, ascii_of hg i (by omega), filter_step]
    cases freeB g.f2 (i : Nat)
    ·rw [if_neg (by simp), if_neg (by simp)]
     exact ih (i + 1) k acc (by omega) (by omega) (by omega)
    ·rw [if_pos rfl, if_pos (by omega), if_pos rfl]
     exact ih (i + 1) k _ (by omega) (by omega) (by simp; omega)
 exact go g.f2.size 0 k [] (by omega) (by omega) (by simp)
def onlyG (g : S24) (foot : List Int) : S24 := ⟨g.f0, g.f1, strOf (paintL (bytesOf g.f2) fun j => !foot.contains (j : Int))⟩
theorem onlyG_size (g : S24) (foot : List Int) : (onlyG g foot).f2.size = g.f2.size := by
 unfold onlyG strOf
 show (List.map _ (paintL _ _)).toArray.size = _
 rw [List.size_toArray, List.length_map, paintL_len, bytesOf_length]
theorem paint_ext (b : List Int) (P Q : Nat → Bool) (h : ∀ j, j < b.length → (if P j = true then (35 : Int) else b.getD j 0) = if Q j = true then 35 else b.getD j 0) : paintL b P = paintL b Q := by
 unfold paintL
 apply List.map_congr_left
 intro j hj
 exact h j (by simpa using hj)
theorem implOnly (g : S24) (hg : gridB g = true) (foot : List Int) (hf : foot.length ≤ 1048576) (k : Nat) (hk : 2300000 ≤ k) : impl_onlyCells.f k g foot = some (onlyG g foot) := by
 have h4 := gridB_size hg
 have h5 := freeL_len g
 unfold impl_onlyCells.f AvDel.del.f
 rw [implFreeCells g hg k (by omega), Option.bind_some, if_pos (by omega), Option.bind_some, implWalls g hg _ (by have := List.length_filter_le (fun x => !foot.contains x) (freeL g); omega) k hk]
 unfold onlyG
 refine congrArg some (congrArg _ (congrArg strOf (paint_ext _ _ _ fun j hj => ?_)))
 rw [bytesOf_length] at hj
 have hm : ((freeL g).filter fun x => !foot.contains x).contains (j : Int) = (freeB g.f2 (j : Int) && !foot.contains (j : Int)) := by
  rw [Bool.eq_iff_iff, List.contains_iff_mem, List.mem_filter, freeL_mem, Bool.and_eq_true]
 rw [hm]
 cases hff : freeB g.f2 (j : Int)
 ·rw [Bool.false_and, if_neg (by simp)]
  unfold freeB at hff
  rw [decide_eq_true (by omega), Bool.true_and] at hff
  simp at hff
  rw [bytesOf_at g.f2 j hj, hff]
  split <;> rfl
 ·rw [Bool.true_and]
theorem specOnly (g : S24) (hg : gridB g = true) (foot : List Int) (k : Nat) (hk : 2300000 ≤ k) (cs : List Int) (hc : cs = ((List.range' 0 g.f2.size).filter fun i => !foot.contains ((i : Nat) : Int)).map fun (i : Nat) => (i : Int)) : spec_Walled.f k g cs = some (onlyG g foot) := by
 have h4 := gridB_size hg
 have hl : cs.length ≤ 64 := by
  rw [hc, List.length_map]
  have := List.length_filter_le (fun i => !foot.contains ((i : Nat) : Int)) (List.range' 0 g.f2.size)
  simp only [List.length_range'] at this
  omega
 rw [specWalls g hg cs (by omega) k hk]
 unfold onlyG
 refine congrArg some (congrArg _ (congrArg strOf (paint_ext _ _ _ fun j hj => ?_)))
 rw [bytesOf_length] at hj
 have hm : cs.contains (j : Int) = !foot.contains (j : Int) := by
  rw [hc, Bool.eq_iff_iff, List.contains_iff_mem, List.mem_map]
  simp only [List.mem_filter, List.mem_range'_1]
  constructor
  ·rintro ⟨i, ⟨_, h⟩, e⟩
   obtain rfl : i = j := by omega
   exact h
  ·intro h
   exact ⟨j, ⟨by omega, h⟩, rfl⟩
 rw [hm]
def askB (g : S24) (st gl : List Int) (sp : Int) : Bool := gridB g && (decide (1 ≤ st.length ∧ st.length ≤ 10) && (decide (gl.length ≤ st.length) && (decide (0 ≤ sp ∧ sp ≤ 20) && (okCells g.f2 st && (okCells g.f2 gl && decide (((freeL g).length : Int) * (sp + 1) ≤ 240))))))
theorem mul64 {n : Nat} {sp : Int} (h : n ≤ 64) (h2 : 0 ≤ sp ∧ sp ≤ 20) : w64 ((n : Int) * (w64 (sp + 1))) = (n : Int) * (sp + 1) := by
 have e1 : w64 (sp + 1) = sp + 1 := w64e (by omega) (by omega)
 have h3 : (n : Int) * (sp + 1) ≤ 64 * 21 := Int.mul_le_mul (by omega) (by omega) (by omega) (by omega)
 have h4 : 0 ≤ (n : Int) * (sp + 1) := Int.mul_nonneg (by omega) (by omega)
 rw [e1, w64e (by omega) (by omega)]
theorem specAsk (g : S24) (hb : g.f2.size ≤ 1048576) (st gl : List Int) (sp : Int) (hs : st.length ≤ 1048576) (hgl : gl.length ≤ 1048576) (k : Nat) (hk : 2300000 ≤ k) : spec_AskOk.f k g st gl sp = some (askB g st gl sp) := by
 unfold spec_AskOk.f askB
 rw [specGrid g hb k (by omega), Option.bind_some]
 cases hg : gridB g
 ·rfl
 have h4 := gridB_size hg
 rw [if_pos rfl, Bool.true_and, l01In_eq, Option.bind_some]
 by_cases h1 : 1 ≤ st.length ∧ st.length ≤ 10
 ·rw [if_pos (by simp; omega), decide_eq_true h1, Bool.true_and]
  by_cases h2 : gl.length ≤ st.length
  ·rw [if_neg (by omega), decide_eq_true h2, Bool.true_and, l01In_eq, Option.bind_some]
   by_cases h3 : 0 ≤ sp ∧ sp ≤ 20
   ·rw [if_pos (by simpa using h3), decide_eq_true h3, Bool.true_and, specCells g hg st hs k hk, Option.bind_some]
    cases okCells g.f2 st
    ·rfl
    ·rw [if_pos rfl, Bool.true_and, specCells g hg gl hgl k hk, Option.bind_some]
     cases okCells g.f2 gl
     ·rfl
     ·have h5 := freeL_len g
      rw [if_pos rfl, Bool.true_and, specFreeCells g hg k (by omega), Option.bind_some, mul64 (by omega) h3]
   ·rw [if_neg (by simpa using h3), decide_eq_false h3, Bool.false_and]
  ·rw [if_pos (by omega), decide_eq_false h2, Bool.false_and]
 ·rw [if_neg (by simp; omega), decide_eq_false h1, Bool.false_and]
theorem implAsk (g : S24) (hb : g.f2.size ≤ 1048576) (st gl : List Int) (sp : Int) (hs : st.length ≤ 1048576) (hgl : gl.length ≤ 1048576) (k : Nat) (hk : 2300000 ≤ k) : impl_AskOk.f k g st gl sp = some (askB g st gl sp) := by
 unfold impl_AskOk.f impl_isAsked.f askB
 cases hg : gridB g
 ·unfold impl_areFree.f
  rw [implGrid g hb k (by omega), hg]
  rfl
 have h4 := gridB_size hg
 have h5 := freeL_len g
 rw [implAreFree g hg st hs k (by omega), implAreFree g hg gl hgl k (by omega), implAsc st hs k (by omega), implAsc gl hgl k (by omega), implFreeCells g hg k (by omega)]
 unfold okCells
 simp only [Option.bind_some, Bool.true_and]
 cases st.all (freeB g.f2)
 ·simp
 cases gl.all (freeB g.f2)
 ·simp
 cases ascB st
 ·simp
 cases ascB gl
 ·simp
 by_cases h1 : 1 ≤ st.length ∧ st.length ≤ 10
 ·by_cases h2 : gl.length ≤ st.length
  ·by_cases h3 : 0 ≤ sp ∧ sp ≤ 20
   ·rw [mul64 (by omega) h3]
    rw [decide_eq_true h1, decide_eq_true h2, decide_eq_true h3]
    simp [show ¬ (st.length : Int) < 1 by omega, show ¬ 10 < (st.length : Int) by omega, h2, h3.1, h3.2]
   ·rw [decide_eq_false h3]
    simp [show ¬ (st.length : Int) < 1 by omega, show ¬ 10 < (st.length : Int) by omega, h2]
    intros
    omega
  ·rw [decide_eq_false h2]
   simp [show ¬ (st.length : Int) < 1 by omega, show ¬ 10 < (st.length : Int) by omega, h2]
 ·rw [decide_eq_false h1]
  by_cases h6 : (st.length : Int) < 1
  ·simp [h6]
  ·simp [h6, show 10 < (st.length : Int) by omega]
end Go.Proofs.YtfhjipfkaemapaaGreat.Pu