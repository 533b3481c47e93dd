/- Plain laws about what the functions compute: the numbers of a yard. -/
import Derived.Test.YtfhjipfkaemapaaGreatPuL
namespace Go.Proofs.YtfhjipfkaemapaaGreat.Pu
open Go Go.Av Go.Proofs Go.Proofs.YtfhjipfkaemapaaGreat.V
set_option linter.unusedVariables false
set_option linter.unusedSimpArgs false
def flagI (b : Bool) : Int := if b = true then 1 else 0
theorem implFlag (b : Bool) : impl_flag.f b = some (flagI b) := by unfold impl_flag.f flagI; cases b <;> rfl
theorem grow_gen {β ρ : Type} (n : Nat) (hn : n ≤ 16777216) (L : Nat → List β → Int → Option ρ) (p : Nat → List β) (F : List β → Option ρ) (C M : Nat) (hp : ∀ i, i < n → (p i).length ≤ M)
  (h1 : ∀ kq out i, i < n → C ≤ kq → L (kq + 1) out (i : Int) = if (out.length + (p i).length) * 8 ≤ 140737488355328 then L kq (out ++ p i) (w64 ((i : Int) + 1)) else none) (h2 : ∀ kq out, C ≤ kq → L (kq + 1) out (n : Int) = F out) :
  ∀ (d i k : Nat) (out : List β), i + d = n → C + d < k → out.length + d * M ≤ 1000000000 → L k out (i : Int) = F (out ++ ((List.range' i d).map p).flatten) := by
 intro d
 induction d with
 | zero =>
   intro i k out hi hk _
   obtain ⟨k, rfl⟩ := ks hk
   obtain rfl : i = n := by omega
   rw [h2 k _ (by omega)]
   simp
 | succ d ih =>
   intro i k out hi hk ho
   obtain ⟨k, rfl⟩ := ks hk
   have hpi := hp i (by omega)
   rw [Nat.succ_mul] at ho
   rw [h1 k out i (by omega) (by omega), if_pos (by omega), wn (by omega), ih (i + 1) k _ (by omega) (by omega) (by simp; omega), List.range'_succ, List.map_cons, List.flatten_cons, List.append_assoc]
theorem flat_len {β : Type} (p : Nat → List β) (M : Nat) : ∀ (d i : Nat), (∀ j, i ≤ j → j < i + d → (p j).length ≤ M) → (((List.range' i d).map p).flatten).length ≤ d * M
 | 0, i, h => by simp
 | d + 1, i, h => by
   have h1 := h i (by omega) (by omega)
   have h2 := flat_len p M d (i + 1) (fun j hj hj' => h j (by omega) (by omega))
   rw [List.range'_succ, List.map_cons, List.flatten_cons, List.length_append, Nat.succ_mul]
   omega
theorem asc_len (s : ByteArray) (xs : List Int) (h : okCells s xs = true) : xs.length ≤ s.size := by
 unfold okCells ascB at h
 simp only [Bool.and_eq_true, List.all_eq_true] at h
 obtain ⟨h1, h2⟩ := h
 have lo : ∀ i, i < xs.length → (i : Int) ≤ rdD 0 xs (i : Nat) := fun i => by
  induction i with
  | zero =>
    intro hi
    rw [rdn 0 xs 0 hi]
    have := (freeB_rng (h1 _ (List.getElem_mem hi))).1
    omega
  | succ i ih =>
    intro hi
    have h3 := ih (by omega)
    have h4 := h2 i (by simp [List.mem_range'_1]; omega)
    have h4 := of_decide_eq_true h4
    omega
 rcases Nat.eq_zero_or_pos xs.length with h0 | h0
 ·omega
 ·have h3 := lo (xs.length - 1) (by omega)
  rw [rdn 0 xs _ (by omega)] at h3
  have := (freeB_rng (h1 _ (List.getElem_mem (show xs.length - 1 < xs.length by omega)))).2
  omega
structure Small (y : S35) : Prop where
 grid : y.f0.f0.f2.size ≤ 64
 robots : y.f1.length ≤ 10
 counts : y.f2.f2.length ≤ 48
 ways : y.f5.f2.length ≤ 10
 cells : ∀ w ∈ y.f5.f2, w.f0.length ≤ 21
 jobs : y.f6.length ≤ 10
 goals : y.f7.length ≤ 64
theorem yard_small (y : S35) (h : yardB y = true) (hF : FitB y) : Small y := by
 have h0 := h
 unfold yardB at h
 simp only [Bool.and_eq_true] at h
 obtain ⟨h1, h2, h3, _, _, _, h7, h8, _⟩ := h
 obtain ⟨hg, hr, _⟩ := teamB_solo h2
 have hs := (gridB_size hg).2
 have hgo := asc_len _ _ h8
 have hc : y.f2.f2.length ≤ 48 := by
  unfold windowB at h3
  simp only [Bool.and_eq_true, decide_eq_true_eq] at h3
  obtain ⟨a, _, b, _⟩ := h3
  rw [w64e (by omega) (by omega)] at b
  omega
 cases ha : y.f4
 ·have h6 := hF.2 ha
  unfold jobsB at h7
  rw [if_neg (by rw [ha]; simp)] at h7
  simp only [Bool.and_eq_true, decide_eq_true_eq] at h7
  obtain ⟨_, _, h9, _⟩ := h7
  have h9 : y.f5.f2.length = 0 := by omega
  exact ⟨hs, hr, hc, by omega, fun w hw => by rw [List.eq_nil_of_length_eq_zero h9] at hw; simp at hw, by omega, by omega⟩
 ·have hJ := hF.1 ha
  have a := hJ.span
  have b := hJ.jobs
  have c := hJ.ways
  exact ⟨hs, hr, hc, by omega, fun w hw => by have := hJ.cells w hw; omega, by omega, by omega⟩
def pCell (y : S35) (i : Nat) : List Int := [w64 (bt y.f0.f0.f2 (i : Int))]
def pRobot (y : S35) (i : Nat) : List Int := [(rdD z51 y.f1 (i : Int)).f0, (rdD z51 y.f1 (i : Int)).f1, (rdD z51 y.f1 (i : Int)).f2, flagI (rdD z51 y.f1 (i : Int)).f3]
def pWay (y : S35) (i : Nat) : List Int := (rdD z53 y.f5.f2 (i : Int)).f0
def pJob (y : S35) (i : Nat) : List Int := [(rdD z55 y.f6 (i : Int)).f0, (rdD z55 y.f6 (i : Int)).f1, flagI (rdD z55 y.f6 (i : Int)).f2]
def flatN (p : Nat → List Int) (n : Nat) : List Int := ((List.range' 0 n).map p).flatten
def nums1 (y : S35) : List Int := [y.f0.f0.f0, y.f0.f0.f1] ++ flatN (pCell y) y.f0.f0.f2.size
def nums2 (y : S35) : List Int := (nums1 y ++ [y.f0.f1, y.f0.f2, y.f0.f3, y.f0.f4, (y.f1.length : Int)]) ++ flatN (pRobot y) y.f1.length
def nums3 (y : S35) : List Int := ((nums2 y ++ y.f2.f2) ++ [y.f3, flagI y.f4, y.f5.f0, y.f5.f1, (y.f5.f2.length : Int)]) ++ flatN (pWay y) y.f5.f2.length
def numsL (y : S35) : List Int := ((nums3 y ++ flatN (pJob y) y.f6.length) ++ [(y.f7.length : Int)]) ++ y.f7
def numsR (y : S35) : List Int := if yardB y = true then numsL y else []
theorem nums_len {y : S35} (h : Small y) : (nums1 y).length ≤ 66 ∧ (nums2 y).length ≤ 111 ∧ (nums3 y).length ≤ 374 ∧ (numsL y).length ≤ 469 := by
 have h1 := h.grid
 have h2 := h.robots
 have h3 := h.counts
 have h4 := h.ways
 have h5 := h.jobs
 have h6 := h.goals
 have e1 := flat_len (pCell y) 1 y.f0.f0.f2.size 0 (fun j _ _ => by unfold pCell; simp)
 have e2 := flat_len (pRobot y) 4 y.f1.length 0 (fun j _ _ => by unfold pRobot; simp)
 have e3 := flat_len (pWay y) 21 y.f5.f2.length 0 (fun j _ hj => by unfold pWay; rw [rdn z53 _ j (by omega)]; exact h.cells _ (List.getElem_mem _))
 have e4 := flat_len (pJob y) 3 y.f6.length 0 (fun j _ _ => by unfold pJob; simp)
 unfold numsL nums3 nums2 nums1 flatN
 simp only [List.length_append, List.length_cons, List.length_nil]
 omega
theorem implN0 (y : S35) (h : Small y) (k : Nat) (hk : 1000 ≤ k) : impl_YardNums.l0 k y [y.f0.f0.f0, y.f0.f0.f1] 0 = some (nums1 y) := by
 have h1 := h.grid
 unfold nums1 flatN
 exact grow_gen y.f0.f0.f2.size (by omega) (fun k o v => impl_YardNums.l0 k y o v) (pCell y) some 0 1 (fun i _ => by unfold pCell; simp)
  (fun kq out i hi _ => by show impl_YardNums.l0 (kq + 1) y out _ = _; rw [impl_YardNums.l0, if_pos (by omega), if_pos (by omega)]; rfl)
  (fun kq out _ => by show impl_YardNums.l0 (kq + 1) y out _ = _; rw [impl_YardNums.l0, if_neg (by omega)]) y.f0.f0.f2.size 0 k _ (by omega) (by omega) (by simp; omega)
theorem implN1 (y : S35) (h : Small y) (k : Nat) (hk : 1000 ≤ k) : impl_YardNums.l1 k y (nums1 y ++ [y.f0.f1, y.f0.f2, y.f0.f3, y.f0.f4, (y.f1.length : Int)]) 0 = some (nums2 y) := by
 have h1 := h.robots
 have h2 := (nums_len h).1
 unfold nums2 flatN
 exact grow_gen y.f1.length (by omega) (fun k o v => impl_YardNums.l1 k y o v) (pRobot y) some 0 4 (fun i _ => by unfold pRobot; simp)
  (fun kq out i hi _ => by show impl_YardNums.l1 (kq + 1) y out _ = _; rw [impl_YardNums.l1, if_pos (by omega), if_pos (by omega), implFlag, Option.bind_some]; rfl)
  (fun kq out _ => by show impl_YardNums.l1 (kq + 1) y out _ = _; rw [impl_YardNums.l1, if_neg (by omega)]) y.f1.length 0 k _ (by omega) (by omega) (by simp only [List.length_append, List.length_cons, List.length_nil]; omega)
theorem implN2 (y : S35) (h : Small y) (k : Nat) (hk : 1000 ≤ k) : impl_YardNums.l2 k y ((nums2 y ++ y.f2.f2) ++ [y.f3, flagI y.f4, y.f5.f0, y.f5.f1, (y.f5.f2.length : Int)]) 0 = some (nums3 y) := by
 have h1 := h.ways
 have h3 := h.counts
 have h2 := (nums_len h).2.1
 unfold nums3 flatN
 exact grow_gen y.f5.f2.length (by omega) (fun k o v => impl_YardNums.l2 k y o v) (pWay y) some 0 21 (fun i hi => by unfold pWay; rw [rdn z53 _ i hi]; exact h.cells _ (List.getElem_mem _))
  (fun kq out i hi _ => by show impl_YardNums.l2 (kq + 1) y out _ = _; rw [impl_YardNums.l2, if_pos (by omega), if_pos (by omega)]; rfl)
  (fun kq out _ => by show impl_YardNums.l2 (kq + 1) y out _ = _; rw [impl_YardNums.l2, if_neg (by omega)]) y.f5.f2.length 0 k _ (by omega) (by omega) (by simp only [List.length_append, List.length_cons, List.length_nil]; omega)
theorem implN3 (y : S35) (h : Small y) (k : Nat) (hk : 1000 ≤ k) : impl_YardNums.l3 k y (nums3 y) 0 = some (numsL y) := by
 have h1 := h.jobs
 have h2 := (nums_len h).2.2.1
 have h4 := (nums_len h).2.2.2
 have h5 := h.goals
 have e4 := flat_len (pJob y) 3 y.f6.length 0 (fun j _ _ => by unfold pJob; simp)
 have g1 : ((nums3 y ++ flatN (pJob y) y.f6.length).length + 1) * 8 ≤ 140737488355328 := by unfold flatN; simp only [List.length_append]; omega
 have g2 : (((nums3 y ++ flatN (pJob y) y.f6.length) ++ [(y.f7.length : Int)]).length + y.f7.length) * 8 ≤ 140737488355328 := by unfold flatN; simp only [List.length_append, List.length_cons, List.length_nil]; omega
 have g := grow_gen y.f6.length (by omega) (fun k o v => impl_YardNums.l3 k y o v) (pJob y) (fun out => if (out.length + 1) * 8 ≤ 140737488355328 then (if ((out ++ [(y.f7.length : Int)]).length + y.f7.length) * 8 ≤ 140737488355328 then (some ((out ++ [(y.f7.length : Int)]) ++ y.f7)) else none) else none) 0 3 (fun i _ => by unfold pJob; simp)
  (fun kq out i hi _ => by show impl_YardNums.l3 (kq + 1) y out _ = _; rw [impl_YardNums.l3, if_pos (by omega), if_pos (by omega), implFlag, Option.bind_some]; rfl)
  (fun kq out _ => by show impl_YardNums.l3 (kq + 1) y out _ = _; rw [impl_YardNums.l3, if_neg (by omega)]) y.f6.length 0 k (nums3 y) (by omega) (by omega) (by omega)
 simp only [flatN] at g1 g2
 simp only [if_pos g1, if_pos g2] at g
 unfold numsL flatN
 exact g
theorem small3 (l n m : Nat) (e : l = n + m) (h : n ≤ 111) (h' : m ≤ 48) : (l + 5) * 8 ≤ 140737488355328 := by omega
theorem nums_eq (y : S35) (hS : Sized y) (k : Nat) (hk : 5300000 ≤ k) : impl_YardNums.f k y = some (numsR y) ∧ (numsR y).length ≤ 469 := by
 obtain ⟨e1, e2, hF⟩ := yard_eq y hS k (by omega)
 unfold impl_YardNums.f numsR
 rw [e2, Option.bind_some]
 cases hb : yardB y
 ·exact ⟨rfl, by simp⟩
 have hs := yard_small y hb (hF hb)
 obtain ⟨n1, n2, n3, n4⟩ := nums_len hs
 have s3 := hs.counts
 have q0 := implN0 y hs k (by omega)
 have q1 := implN1 y hs k (by omega)
 have q2 := implN2 y hs k (by omega)
 have q3 := implN3 y hs k (by omega)
 generalize nums1 y = a at *
 generalize nums2 y = b at *
 generalize nums3 y = c at *
 generalize numsL y = d at *
 clear hs
 have g0 : (([] : List Int).length + 2) * 8 ≤ 140737488355328 := by decide
 have g1 : (a.length + 5) * 8 ≤ 140737488355328 := by omega
 have g2 : (b.length + y.f2.f2.length) * 8 ≤ 140737488355328 := by omega
 have g3 : ((b ++ y.f2.f2).length + 5) * 8 ≤ 140737488355328 := small3 _ _ _ (List.length_append) n2 s3
 rw [if_pos rfl, if_pos rfl]
 refine ⟨?_, n4⟩
 ·simp only [q0, Option.bind_some, if_pos g1, q1, if_pos g2, implFlag, if_pos g3, q2, q3]
end Go.Proofs.YtfhjipfkaemapaaGreat.Pu