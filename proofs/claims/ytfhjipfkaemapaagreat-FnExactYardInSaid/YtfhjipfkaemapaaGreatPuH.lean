/- Plain laws about what the functions compute: faults of a plan. -/
import Derived.Test.YtfhjipfkaemapaaGreatPuG
namespace Go.Proofs.YtfhjipfkaemapaaGreat.Pu
open Go Go.Av Go.Proofs Go.Proofs.YtfhjipfkaemapaaGreat.V
set_option linter.unusedVariables false
set_option linter.unusedSimpArgs false
def ringI (ways : List S53) (t : Int) (i : Nat) : Int := srch (orb (nextI ways t) i) i ways.length 1
section
variable {ways : List S53} {sp : Int} (hL : Lev ways sp)
include hL
theorem specRing {t : Int} (hm : meetB ways t = false) (ht : 0 ≤ t ∧ t < sp) (i : Nat) (hi : i < ways.length) (k : Nat) (hk : 1000 ≤ k) : spec_l12Ring.f k ways t (i : Int) = some (ringI ways t i) := by
 have hn := hL.n
 have go : ∀ (d p k v : Nat), p + d = ways.length → d + 500 < k → orb (nextI ways t) i p = (v : Int) → v < ways.length → spec_l12Ring.l0 k ways t (i : Int) (v : Int) ((p + 1 : Nat) : Int) = some (srch (orb (nextI ways t) i) i d (p + 1)) := by
  intro d
  induction d with
  | zero =>
    intro p k v hp hk hv hvl
    obtain ⟨k, rfl⟩ := ks (show 0 < k by omega)
    rw [spec_l12Ring.l0, if_neg (by omega)]
    rfl
  | succ d ih =>
    intro p k v hp hk hv hvl
    obtain ⟨k, rfl⟩ := ks (show 0 < k by omega)
    have hY : orb (nextI ways t) i (p + 1) = nextI ways t v := by rw [orb, hv, if_neg (by omega), Int.toNat_natCast]
    have hr := nextI_rng hL t v
    rw [spec_l12Ring.l0, if_pos (by omega), specNext hL hm ht v hvl k (by omega), Option.bind_some, srch, hY]
    by_cases h1 : nextI ways t v < 0
    ·rw [if_pos h1, if_pos h1]
    ·rw [if_neg h1, if_neg h1]
     by_cases h2 : nextI ways t v = (i : Int)
     ·rw [if_pos h2, if_pos h2]
     ·rw [if_neg h2, if_neg h2, wn (by omega)]
      obtain ⟨u, hu⟩ : ∃ u : Nat, nextI ways t v = (u : Int) := ⟨(nextI ways t v).toNat, by omega⟩
      rw [hu]
      exact ih (p + 1) k u (by omega) (by omega) (by rw [hY, hu]) (by omega)
 exact go ways.length 0 k i (by omega) (by omega) rfl hi
theorem implRing {t : Int} (hm : meetB ways (t + 1) = false) (i : Nat) (hi : i < ways.length) (k : Nat) (hk : 1000 ≤ k) : impl_ringOf.f k ((List.range' 0 ways.length).map (nextI ways t)) (i : Int) = some (ringI ways t i) := by
 have hn := hL.n
 obtain ⟨nx, hnx⟩ : ∃ nx, nx = (List.range' 0 ways.length).map (nextI ways t) := ⟨_, rfl⟩
 have hlen : nx.length = ways.length := by rw [hnx]; simp
 have hget : ∀ v : Nat, v < ways.length → rdD 0 nx (v : Int) = nextI ways t v := by
  intro v hv
  rw [rdn 0 nx v (by omega)]
  simp [hnx]
 rw [← hnx]
 have go : ∀ (d m k : Nat), m + d = ways.length + 1 → 1 ≤ m → d + 50 < k → orb (nextI ways t) i m < ways.length → impl_ringOf.l0 k (i : Int) nx (m : Int) (orb (nextI ways t) i m) = some (srch (orb (nextI ways t) i) i (d + 1) m) := by
  intro d
  induction d with
  | zero =>
    intro m k hm h1 hk hr
    obtain ⟨k, rfl⟩ := ks (show 0 < k by omega)
    rw [impl_ringOf.l0, srch, srch]
    by_cases h2 : orb (nextI ways t) i m = (i : Int)
    ·rw [if_pos h2, if_neg (by omega), if_pos h2]
    ·rw [if_neg h2]
     by_cases h3 : orb (nextI ways t) i m < 0
     ·rw [if_pos h3, if_pos h3]
     ·rw [if_neg h3, if_neg h3, if_neg h2, if_pos (by omega)]
  | succ d ih =>
    intro m k hm h1 hk hr
    obtain ⟨k, rfl⟩ := ks (show 0 < k by omega)
    rw [impl_ringOf.l0, srch]
    by_cases h2 : orb (nextI ways t) i m = (i : Int)
    ·rw [if_pos h2, if_neg (by omega), if_pos h2]
    ·rw [if_neg h2]
     by_cases h3 : orb (nextI ways t) i m < 0
     ·rw [if_pos h3, if_pos h3]
     ·rw [if_neg h3, if_neg h3, if_neg h2, if_neg (by omega), if_pos (by omega), if_pos (by omega), wn (by omega)]
      obtain ⟨u, hu⟩ : ∃ u : Nat, orb (nextI ways t) i m = (u : Int) := ⟨(orb (nextI ways t) i m).toNat, by omega⟩
      have hY : orb (nextI ways t) i (m + 1) = nextI ways t u := by rw [orb, hu, if_neg (by omega), Int.toNat_natCast]
      rw [hu, hget u (by omega), ← hY]
      exact ih (m + 1) k (by omega) (by omega) (by omega) (by rw [hY]; exact nextI_rng hL t u)
 unfold impl_ringOf.f
 have hY : orb (nextI ways t) i 1 = nextI ways t i := by rw [orb, orb, if_neg (by omega), Int.toNat_natCast]
 rw [if_pos (by omega), if_pos (by omega), hget i hi, ← hY]
 have := go ways.length 1 k (by omega) (by omega) (by omega) (by rw [hY]; exact nextI_rng hL t i)
 refine this.trans (congrArg some ?_)
 exact ring_end (nextI ways t) ways.length i hi (fun j hj => nextI_rng hL t j) (fun a b ha hb h0 he => next_inj hm ha hb h0 he)
def cntN (ways : List S53) (t lo hi : Int) : Nat := if (meetB ways t || meetB ways (t + 1)) = true then 0 else ((List.range' 0 ways.length).filter fun i => decide (lo ≤ ringI ways t i ∧ ringI ways t i ≤ hi)).length
omit hL in
theorem cntN_len (t lo hi : Int) : cntN ways t lo hi ≤ ways.length := by
 unfold cntN
 split
 ·omega
 ·have := List.length_filter_le (fun i => decide (lo ≤ ringI ways t i ∧ ringI ways t i ≤ hi)) (List.range' 0 ways.length)
  simpa using this
theorem specCount (t lo hi : Int) (ht : 0 ≤ t ∧ t < sp) (k : Nat) (hk : 5000 ≤ k) : spec_l12Count.f k ways t lo hi = some (cntN ways t lo hi : Int) := by
 have hn := hL.n
 unfold spec_l12Count.f cntN
 rw [specLevel hL t ht k (by omega), Option.bind_some, if_pos rfl, specMeet hL t ht k (by omega), Option.bind_some]
 cases hm : meetB ways t || meetB ways (t + 1)
 ·rw [if_neg (by simp), if_neg (by simp)]
  rw [Bool.or_eq_false_iff] at hm
  have h := count_gen ways.length (by omega) (fun k m v => spec_l12Count.l0 k ways t lo hi v m) (fun i => decide (lo ≤ ringI ways t i ∧ ringI ways t i ≤ hi)) 2000 (fun m => m)
   (fun kq m i hi' hkq => by
     show spec_l12Count.l0 (kq + 1) ways t lo hi _ _ = _
     rw [spec_l12Count.l0, if_pos (by omega), specRing hL hm.1 ht i hi' kq (by omega), Option.bind_some, l01In_eq, Option.bind_some])
   (fun kq m _ => by show spec_l12Count.l0 (kq + 1) ways t lo hi _ _ = _; rw [spec_l12Count.l0, if_neg (by omega)]) ways.length 0 0 k (by omega) (by omega) (by omega) (by omega)
  rw [Nat.zero_add] at h
  exact h
 ·rfl
theorem implNextOf (t : Int) (ht : 0 ≤ t ∧ t < sp) (k : Nat) (hk : 5000 ≤ k) : impl_nextOf.f k ways t = some (if (meetB ways t || meetB ways (t + 1)) = true then [] else (List.range' 0 ways.length).map (nextI ways t)) := by
 have hn := hL.n
 unfold impl_nextOf.f
 rw [implLevel hL t ht k (by omega), Option.bind_some, if_pos rfl, implMeet hL t ht k (by omega), Option.bind_some]
 cases meetB ways t || meetB ways (t + 1)
 ·rw [if_neg (by simp), if_neg (by simp)]
  have go : ∀ (d i k : Nat) (acc : List Int), i + d = ways.length → d + 200 < k → acc.length ≤ i → impl_nextOf.l0 k ways t acc (i : Int) = some (acc ++ (List.range' i d).map (nextI ways t)) := by
   intro d
   induction d with
   | zero =>
     intro i k acc hi hk ha
     obtain ⟨k, rfl⟩ := ks (show 0 < k by omega)
     rw [impl_nextOf.l0, if_neg (by omega)]
     simp
   | succ d ih =>
     intro i k acc hi hk ha
     obtain ⟨k, rfl⟩ := ks (show 0 < k by omega)
     rw [impl_nextOf.l0, if_pos (by omega), if_pos (by omega), implNext hL ht i (by omega) k (by omega), Option.bind_some, if_pos (by omega), wn (by omega), ih (i + 1) k _ (by omega) (by omega) (by simp; omega), List.range'_succ, List.map_cons, List.append_assoc]
     rfl
  exact go ways.length 0 k [] (by omega) (by omega) (by simp)
 ·rfl
theorem implCount (t : Int) (ht : 0 ≤ t ∧ t < sp) (k : Nat) (hk : 5000 ≤ k) : impl_SwapsAt.f k ways t = some (w64 ((cntN ways t 2 2 : Int).tdiv 2)) ∧ impl_RingsAt.f k ways t = some (cntN ways t 3 10 : Int) := by
 have hn := hL.n
 unfold impl_SwapsAt.f impl_RingsAt.f cntN
 rw [implNextOf hL t ht k hk]
 simp only [Option.bind_some]
 cases hm : meetB ways t || meetB ways (t + 1)
 ·rw [if_neg (show ¬ (false = true) by simp), if_neg (show ¬ (false = true) by simp), if_neg (show ¬ (false = true) by simp)]
  rw [Bool.or_eq_false_iff] at hm
  have hlen : ((List.range' 0 ways.length).map (nextI ways t)).length = ways.length := by simp
  have hrng : ∀ i, ringI ways t i < (1 + ways.length : Nat) := fun i => (srch_rng _ _ _ 1 (by omega)).2
  constructor
  ·have h := count_gen ways.length (by omega) (fun k m v => impl_SwapsAt.l0 k ((List.range' 0 ways.length).map (nextI ways t)) v m) (fun i => decide (2 ≤ ringI ways t i ∧ ringI ways t i ≤ 2)) 2000 (fun m => w64 (m.tdiv 2))
    (fun kq m i hi' hkq => by
      show impl_SwapsAt.l0 (kq + 1) _ _ _ = _
      rw [impl_SwapsAt.l0, if_pos (by omega), implRing hL hm.2 i hi' kq (by omega), Option.bind_some]
      by_cases h1 : ringI ways t i = 2
      ·rw [if_pos h1, if_pos (decide_eq_true (by omega))]
      ·rw [if_neg h1, if_neg (by simp only [decide_eq_true_eq]; omega)])
    (fun kq m _ => by show impl_SwapsAt.l0 (kq + 1) _ _ _ = _; rw [impl_SwapsAt.l0, if_neg (by omega)]) ways.length 0 0 k (by omega) (by omega) (by omega) (by omega)
   rw [Nat.zero_add] at h
   exact h
  ·have h := count_gen ways.length (by omega) (fun k m v => impl_RingsAt.l0 k ((List.range' 0 ways.length).map (nextI ways t)) v m) (fun i => decide (3 ≤ ringI ways t i ∧ ringI ways t i ≤ 10)) 2000 (fun m => m)
    (fun kq m i hi' hkq => by
      show impl_RingsAt.l0 (kq + 1) _ _ _ = _
      have := hrng i
      rw [impl_RingsAt.l0, if_pos (by omega), implRing hL hm.2 i hi' kq (by omega), Option.bind_some]
      by_cases h1 : 2 < ringI ways t i
      ·rw [if_pos h1, if_pos (decide_eq_true (by omega))]
      ·rw [if_neg h1, if_neg (by simp only [decide_eq_true_eq]; omega)])
    (fun kq m _ => by show impl_RingsAt.l0 (kq + 1) _ _ _ = _; rw [impl_RingsAt.l0, if_neg (by omega)]) ways.length 0 0 k (by omega) (by omega) (by omega) (by omega)
   rw [Nat.zero_add] at h
   exact h
 ·obtain ⟨k, rfl⟩ := ks (show 0 < k by omega)
  constructor
  ·rw [if_pos rfl, if_pos rfl, impl_SwapsAt.l0, if_neg (by simp)]
   rfl
  ·rw [if_pos rfl, if_pos rfl, impl_RingsAt.l0, if_neg (by simp)]
   rfl
theorem specSwaps (t : Int) (ht : 0 ≤ t ∧ t < sp) (k : Nat) (hk : 5000 ≤ k) : spec_SwapsAt.f k ways t = some (w64 ((cntN ways t 2 2 : Int).tdiv 2)) := by
 unfold spec_SwapsAt.f
 rw [specCount hL t 2 2 ht k hk]
 rfl
theorem specRings (t : Int) (ht : 0 ≤ t ∧ t < sp) (k : Nat) (hk : 5000 ≤ k) : spec_RingsAt.f k ways t = some (cntN ways t 3 10 : Int) := by
 unfold spec_RingsAt.f
 rw [specCount hL t 3 10 ht k hk]
 rfl
def stepB (g : S24) (ways : List S53) (i : Nat) (j : Nat) : Bool := !freeB g.f2 (cel ways i j) || (!decide (j = 0) && (!decide (cel ways i j = cel ways i ((j - 1 : Nat) : Int)) && !(aroundF g (cel ways i ((j - 1 : Nat) : Int))).contains (cel ways i j)))
def stepsB (g : S24) (ways : List S53) (n : Nat) : Bool := (List.range' 0 ways.length).any fun i => (List.range' 0 n).any (stepB g ways i)
theorem specSteps (g : S24) (hg : gridB g = true) (p : S32) (hp : p.f2 = ways) (hsp : p.f0 = sp) (k : Nat) (hk : 1400000 ≤ k) : spec_PlanFault.l0 k p g 0 = some (if stepsB g ways (sp.toNat + 1) = true then .inl 3 else .inr ()) := by
 have hn := hL.n
 have hs := hL.spr
 have h4 := gridB_size hg
 have inner : ∀ (i : Nat), i < ways.length → ∀ k, 1300000 ≤ k → spec_PlanFault.l1 k p (i : Int) g 0 = some (if ((List.range' 0 (sp.toNat + 1)).any (stepB g ways i)) = true then .inl 3 else .inr ()) := by
  intro i hi k hk
  have hli := hL.len i hi
  exact find_gen (sp.toNat + 1) (by omega) (fun k v => spec_PlanFault.l1 k p (i : Int) g v) (stepB g ways i) 1200000 (.inl 3) (.inr ())
   (fun kq j hj hkq => by
     show spec_PlanFault.l1 (kq + 1) p (i : Int) g _ = _
     rw [spec_PlanFault.l1, hp, if_pos (by omega), if_pos (by omega), specFree g _ (by omega) kq (by omega), hg, Option.bind_some, Bool.true_and]
     unfold stepB cel
     cases freeB g.f2 (rdD 0 (rdD z53 ways (i : Int)).f0 (j : Int))
     ·rfl
     ·rw [if_pos rfl, Bool.not_true, Bool.false_or]
      by_cases h0 : j = 0
      ·subst h0
       rw [if_neg (by omega)]
       rfl
      ·have e1 : w64 ((j : Int) - 1) = ((j - 1 : Nat) : Int) := by rw [w64e (by omega) (by omega)]; omega
       rw [if_pos (by omega), e1, if_pos (by omega), if_pos (by omega), decide_eq_false h0, Bool.not_false, Bool.true_and, specBeside g hg _ _ kq (by omega), Option.bind_some]
       by_cases h1 : rdD 0 (rdD z53 ways (i : Int)).f0 (j : Int) = rdD 0 (rdD z53 ways (i : Int)).f0 ((j - 1 : Nat) : Int)
       ·rw [if_pos h1, decide_eq_true h1]; rfl
       ·rw [if_neg h1, decide_eq_false h1, Bool.not_false, Bool.true_and]
        cases (aroundF g (rdD 0 (rdD z53 ways (i : Int)).f0 ((j - 1 : Nat) : Int))).contains (rdD 0 (rdD z53 ways (i : Int)).f0 (j : Int)) <;> rfl)
   (fun kq _ => by show spec_PlanFault.l1 (kq + 1) p (i : Int) g _ = _; rw [spec_PlanFault.l1, hp, if_neg (by omega)]) (sp.toNat + 1) 0 k (by omega) (by omega)
 exact find_gen ways.length (by omega) (fun k v => spec_PlanFault.l0 k p g v) (fun i => (List.range' 0 (sp.toNat + 1)).any (stepB g ways i)) 1300000 (.inl 3) (.inr ())
  (fun kq i hi hkq => by
    show spec_PlanFault.l0 (kq + 1) p g _ = _
    rw [spec_PlanFault.l0, hp, if_pos (by omega), if_pos (by omega), inner i hi kq hkq, Option.bind_some]
    cases (List.range' 0 (sp.toNat + 1)).any (stepB g ways i) <;> rfl)
  (fun kq _ => by show spec_PlanFault.l0 (kq + 1) p g _ = _; rw [spec_PlanFault.l0, hp, if_neg (by omega)]) ways.length 0 k (by omega) (by omega)
theorem implSteps (g : S24) (hg : gridB g = true) (k : Nat) (hk : 1400000 ≤ k) : impl_stepFault.f k g ways = some (stepsB g ways (sp.toNat + 1)) := by
 have hn := hL.n
 have hs := hL.spr
 have h4 := gridB_size hg
 unfold impl_stepFault.f
 have inner : ∀ (i : Nat), i < ways.length → ∀ k, 1300000 ≤ k → impl_stepFault.l1 k ways (i : Int) g 0 = some (if ((List.range' 0 (sp.toNat + 1)).any (stepB g ways i)) = true then .inl true else .inr ()) := by
  intro i hi k hk
  have hli := hL.len i hi
  exact find_gen (sp.toNat + 1) (by omega) (fun k v => impl_stepFault.l1 k ways (i : Int) g v) (stepB g ways i) 1200000 (.inl true) (.inr ())
   (fun kq j hj hkq => by
     show impl_stepFault.l1 (kq + 1) ways (i : Int) g _ = _
     rw [impl_stepFault.l1, if_pos (by omega), if_pos (by omega), implFree, Option.bind_some]
     unfold stepB cel
     cases freeB g.f2 (rdD 0 (rdD z53 ways (i : Int)).f0 (j : Int))
     ·rfl
     ·rw [if_pos rfl, Bool.not_true, Bool.false_or]
      by_cases h0 : j = 0
      ·subst h0
       rw [if_neg (by omega)]
       rfl
      ·have e1 : w64 ((j : Int) - 1) = ((j - 1 : Nat) : Int) := by rw [w64e (by omega) (by omega)]; omega
       have e2 := aroundF_len g (rdD 0 (rdD z53 ways (i : Int)).f0 ((j - 1 : Nat) : Int))
       rw [if_pos (by omega), e1, if_pos (by omega), if_pos (by omega), decide_eq_false h0, Bool.not_false, Bool.true_and, implAround0 g hg, Option.bind_some, implHas _ _ (by omega) kq (by omega), Option.bind_some]
       by_cases h1 : rdD 0 (rdD z53 ways (i : Int)).f0 (j : Int) = rdD 0 (rdD z53 ways (i : Int)).f0 ((j - 1 : Nat) : Int)
       ·rw [if_pos h1, decide_eq_true h1]; rfl
       ·rw [if_neg h1, decide_eq_false h1, Bool.not_false, Bool.true_and]
        cases (aroundF g (rdD 0 (rdD z53 ways (i : Int)).f0 ((j - 1 : Nat) : Int))).contains (rdD 0 (rdD z53 ways (i : Int)).f0 (j : Int)) <;> rfl)
   (fun kq _ => by show impl_stepFault.l1 (kq + 1) ways (i : Int) g _ = _; rw [impl_stepFault.l1, if_neg (by omega)]) (sp.toNat + 1) 0 k (by omega) (by omega)
 have outer := find_gen ways.length (by omega) (fun k v => impl_stepFault.l0 k ways g v) (fun i => (List.range' 0 (sp.toNat + 1)).any (stepB g ways i)) 1300000 true false
  (fun kq i hi hkq => by
    show impl_stepFault.l0 (kq + 1) ways g _ = _
    rw [impl_stepFault.l0, if_pos (by omega), if_pos (by omega), inner i hi kq hkq, Option.bind_some]
    cases (List.range' 0 (sp.toNat + 1)).any (stepB g ways i) <;> rfl)
  (fun kq _ => by show impl_stepFault.l0 (kq + 1) ways g _ = _; rw [impl_stepFault.l0, if_neg (by omega)]) ways.length 0 k (by omega) (by omega)
 refine outer.trans ?_
 unfold stepsB
 split
 ·rename_i h; rw [h]
 ·rename_i h; rw [Bool.not_eq_true] at h; rw [h]
def timeB (ways : List S53) (n : Nat) (c : Int → Bool) : Bool := (List.range' 0 n).any fun t => c (t : Nat)
theorem specTimes (p : S32) (hp : p.f2 = ways) (hsp : p.f0 = sp) (k : Nat) (hk : 7000 ≤ k) : spec_PlanFault.l2 k p 4 = some (if timeB ways sp.toNat (fun t => meetB ways t || meetB ways (t + 1)) = true then .inl 4 else if timeB ways sp.toNat (fun t => decide (0 < w64 ((cntN ways t 2 2 : Int).tdiv 2))) = true then .inl 5 else if timeB ways sp.toNat (fun t => decide (0 < (cntN ways t 3 10 : Int))) = true then .inl 6 else .inr ()) := by
 have hs := hL.spr
 obtain ⟨k, rfl⟩ : ∃ m, k = m + 4 := ⟨k - 4, by omega⟩
 have m4 : ∀ k, 6000 ≤ k → spec_PlanFault.l3 k p 4 0 = some (if timeB ways sp.toNat (fun t => meetB ways t || meetB ways (t + 1)) = true then .inl 4 else .inr ()) := fun k hk =>
  find_gen sp.toNat (by omega) (fun k v => spec_PlanFault.l3 k p 4 v) (fun t => meetB ways (t : Nat) || meetB ways ((t : Nat) + 1)) 5000 (.inl 4) (.inr ())
   (fun kq j hj hkq => by
     show spec_PlanFault.l3 (kq + 1) p 4 _ = _
     rw [spec_PlanFault.l3, hp, hsp, if_pos (by omega), if_pos rfl, specMeet hL (j : Int) (by omega) kq (by omega), Option.bind_some]
     cases meetB ways (j : Nat) || meetB ways ((j : Nat) + 1)
     ·rfl
     ·rfl)
   (fun kq _ => by show spec_PlanFault.l3 (kq + 1) p 4 _ = _; rw [spec_PlanFault.l3, hsp, if_neg (by omega)]) sp.toNat 0 k (by omega) (by omega)
 have m5 : ∀ k, 6000 ≤ k → spec_PlanFault.l3 k p 5 0 = some (if timeB ways sp.toNat (fun t => decide (0 < w64 ((cntN ways t 2 2 : Int).tdiv 2))) = true then .inl 5 else .inr ()) := fun k hk =>
  find_gen sp.toNat (by omega) (fun k v => spec_PlanFault.l3 k p 5 v) (fun t => decide (0 < w64 ((cntN ways (t : Nat) 2 2 : Int).tdiv 2))) 5000 (.inl 5) (.inr ())
   (fun kq j hj hkq => by
     show spec_PlanFault.l3 (kq + 1) p 5 _ = _
     rw [spec_PlanFault.l3, hp, hsp, if_pos (by omega), if_neg (by omega), if_pos rfl, specSwaps hL (j : Int) (by omega) kq (by omega), Option.bind_some]
     by_cases h : 0 < w64 ((cntN ways (j : Nat) 2 2 : Int).tdiv 2)
     ·rw [if_pos h, if_pos (decide_eq_true h)]
     ·rw [if_neg h, if_neg (show ¬ (5 : Int) = 6 by omega), if_neg (by simpa using h)])
   (fun kq _ => by show spec_PlanFault.l3 (kq + 1) p 5 _ = _; rw [spec_PlanFault.l3, hsp, if_neg (by omega)]) sp.toNat 0 k (by omega) (by omega)
 have m6 : ∀ k, 6000 ≤ k → spec_PlanFault.l3 k p 6 0 = some (if timeB ways sp.toNat (fun t => decide (0 < (cntN ways t 3 10 : Int))) = true then .inl 6 else .inr ()) := fun k hk =>
  find_gen sp.toNat (by omega) (fun k v => spec_PlanFault.l3 k p 6 v) (fun t => decide (0 < (cntN ways (t : Nat) 3 10 : Int))) 5000 (.inl 6) (.inr ())
   (fun kq j hj hkq => by
     show spec_PlanFault.l3 (kq + 1) p 6 _ = _
     rw [spec_PlanFault.l3, hp, hsp, if_pos (by omega), if_neg (by omega), if_neg (by omega), if_pos rfl, specRings hL (j : Int) (by omega) kq (by omega), Option.bind_some]
     by_cases h : 0 < (cntN ways (j : Nat) 3 10 : Int)
     ·rw [if_pos h, if_pos (decide_eq_true h)]
     ·rw [if_neg h, if_neg (by simpa using h)])
   (fun kq _ => by show spec_PlanFault.l3 (kq + 1) p 6 _ = _; rw [spec_PlanFault.l3, hsp, if_neg (by omega)]) sp.toNat 0 k (by omega) (by omega)
 have e5 : w64 (4 + 1) = 5 := w64e (by omega) (by omega)
 have e6 : w64 (5 + 1) = 6 := w64e (by omega) (by omega)
 have e7 : w64 (6 + 1) = 7 := w64e (by omega) (by omega)
 rw [spec_PlanFault.l2, if_pos (by omega), m4 (k + 3) (by omega), Option.bind_some]
 cases timeB ways sp.toNat (fun t => meetB ways t || meetB ways (t + 1))
 ·rw [if_neg (show ¬ (false = true) by simp), if_neg (show ¬ (false = true) by simp)]
  show spec_PlanFault.l2 (k + 3) p (w64 (4 + 1)) = _
  rw [e5, spec_PlanFault.l2, if_pos (by omega), m5 (k + 2) (by omega), Option.bind_some]
  cases timeB ways sp.toNat (fun t => decide (0 < w64 ((cntN ways t 2 2 : Int).tdiv 2)))
  ·rw [if_neg (show ¬ (false = true) by simp), if_neg (show ¬ (false = true) by simp)]
   show spec_PlanFault.l2 (k + 2) p (w64 (5 + 1)) = _
   rw [e6, spec_PlanFault.l2, if_pos (by omega), m6 (k + 1) (by omega), Option.bind_some]
   cases timeB ways sp.toNat (fun t => decide (0 < (cntN ways t 3 10 : Int)))
   ·rw [if_neg (show ¬ (false = true) by simp)]
    show spec_PlanFault.l2 (k + 1) p (w64 (6 + 1)) = _
    rw [e7, spec_PlanFault.l2, if_neg (by omega)]
   ·rfl
  ·rfl
 ·rfl
theorem implTime (c : Int → Bool) (p : Int → Option Bool) (h : ∀ t, 0 ≤ t ∧ t < sp → p t = some (c t)) (k : Nat) (hk : 5000 ≤ k) : impl_someTime_3.f k sp p = some (timeB ways sp.toNat c) := by
 have hs := hL.spr
 have h1 := find_gen sp.toNat (by omega) (fun k v => impl_someTime_3.l0 k sp p v) (fun t => c (t : Nat)) 0 true false
  (fun kq j hj _ => by show impl_someTime_3.l0 (kq + 1) sp p _ = _; rw [impl_someTime_3.l0, if_pos (by omega), h _ (by omega), Option.bind_some])
  (fun kq _ => by show impl_someTime_3.l0 (kq + 1) sp p _ = _; rw [impl_someTime_3.l0, if_neg (by omega)]) sp.toNat 0 k (by omega) (by omega)
 refine h1.trans ?_
 unfold timeB
 split
 ·rename_i h; rw [h]
 ·rename_i h; rw [Bool.not_eq_true] at h; rw [h]
def endL (ways : List S53) (sp : Int) : List Int := (List.range' 0 ways.length).map fun i => cel ways i sp
theorem specEnds (k : Nat) (hk : 5000 ≤ k) : spec_EndsOf.f k ways = some (sortL (endL ways sp)) := by
 have hn := hL.n
 have hs := hL.spr
 have go : ∀ (d i k : Nat) (acc : List Int), i + d = ways.length → d + 1000 < k → acc.length ≤ i → spec_EndsOf.l0 k ways acc (i : Int) = some (sortL (acc ++ (List.range' i d).map fun i => cel ways i sp)) := by
  intro d
  induction d with
  | zero =>
    intro i k acc hi hk ha
    obtain ⟨k, rfl⟩ := ks (show 0 < k by omega)
    rw [spec_EndsOf.l0, if_neg (by omega), sorted_same _ (by omega) k (by omega)]
    simp [sortL]
  | succ d ih =>
    intro i k acc hi hk ha
    obtain ⟨k, rfl⟩ := ks (show 0 < k by omega)
    have hli := hL.len i (by omega)
    have e1 : w64 (((rdD z53 ways (i : Int)).f0.length : Int) - 1) = sp := by rw [w64e (by omega) (by omega)]; omega
    rw [spec_EndsOf.l0, if_pos (by omega), if_pos (by omega), if_pos (by omega), e1, if_pos (by omega), if_pos (by omega), if_pos (by omega), wn (by omega), ih (i + 1) k _ (by omega) (by omega) (by simp; omega), List.range'_succ, List.map_cons, List.append_assoc]
    rfl
 exact go ways.length 0 k [] (by omega) (by omega) (by simp)
theorem implEnds (k : Nat) (hk : 5000 ≤ k) : impl_EndsOf.f k ways = some (sortL (endL ways sp)) := by
 have hn := hL.n
 have hs := hL.spr
 have go : ∀ (d i k : Nat) (acc : List Int), i + d = ways.length → d + 1000 < k → acc.length ≤ i → impl_EndsOf.l0 k ways acc (i : Int) = some (sortL (acc ++ (List.range' i d).map fun i => cel ways i sp)) := by
  intro d
  induction d with
  | zero =>
    intro i k acc hi hk ha
    obtain ⟨k, rfl⟩ := ks (show 0 < k by omega)
    rw [impl_EndsOf.l0, if_neg (by omega), ordered_same _ (by omega)]
    simp [sortL]
  | succ d ih =>
    intro i k acc hi hk ha
    obtain ⟨k, rfl⟩ := ks (show 0 < k by omega)
    have hli := hL.len i (by omega)
    have e1 : w64 (((rdD z53 ways (i : Int)).f0.length : Int) - 1) = sp := by rw [w64e (by omega) (by omega)]; omega
    rw [impl_EndsOf.l0, if_pos (by omega), if_pos (by omega), if_pos (by omega), e1, if_pos (by omega), if_pos (by omega), if_pos (by omega), wn (by omega), ih (i + 1) k _ (by omega) (by omega) (by simp; omega), List.range'_succ, List.map_cons, List.append_assoc]
    rfl
 exact go ways.length 0 k [] (by omega) (by omega) (by simp)
def mvB (ways : List S53) (i j : Nat) : Bool := !decide (cel ways i j = cel ways i ((j - 1 : Nat) : Int))
def mvN (ways : List S53) (sp : Int) (i : Nat) : Nat := ((List.range' 1 sp.toNat).filter (mvB ways i)).length
def totN (ways : List S53) (sp : Int) : Nat → Nat
 | 0 => 0
 | i + 1 => totN ways sp i + mvN ways sp i
omit hL in
theorem mvN_len (i : Nat) : mvN ways sp i ≤ sp.toNat := by
 unfold mvN
 have := List.length_filter_le (mvB ways i) (List.range' 1 sp.toNat)
 simpa using this
omit hL in
theorem totN_len (i : Nat) : totN ways sp i ≤ sp.toNat * i := by
 induction i with
 | zero => simp [totN]
 | succ i ih =>
   have := mvN_len (ways := ways) (sp := sp) i
   rw [totN, Nat.mul_succ]
   omega
theorem specMoves (k : Nat) (hk : 5000 ≤ k) : spec_MovesOf.f k ways = some (totN ways sp ways.length : Int) := by
 have hn := hL.n
 have hs := hL.spr
 have go : ∀ (d i k : Nat), i + d = ways.length → d + 1000 < k → spec_MovesOf.l0 k ways (totN ways sp i : Int) (i : Int) = some (totN ways sp ways.length : Int) := by
  intro d
  induction d with
  | zero =>
    intro i k hi hk
    obtain ⟨k, rfl⟩ := ks (show 0 < k by omega)
    obtain rfl : i = ways.length := by omega
    rw [spec_MovesOf.l0, if_neg (by omega)]
  | succ d ih =>
    intro i k hi hk
    obtain ⟨k, rfl⟩ := ks (show 0 < k by omega)
    have hli := hL.len i (by omega)
    have ht := totN_len (ways := ways) (sp := sp) i
    have ht2 : sp.toNat * i ≤ 20 * 10 := Nat.mul_le_mul (by omega) (by omega)
    have h1 := count_from 1 (sp.toNat + 1) (by omega) (fun k m v => spec_MovesOf.l1 k (i : Int) ways m v) (mvB ways i) 0 (fun m => m)
     (fun kq m j hj0 hj _ => by
       show spec_MovesOf.l1 (kq + 1) (i : Int) ways _ _ = _
       have e1 : w64 ((j : Int) - 1) = ((j - 1 : Nat) : Int) := by rw [w64e (by omega) (by omega)]; omega
       rw [spec_MovesOf.l1, if_pos (by omega), if_pos (by omega), if_pos (by omega), e1, if_pos (by omega), if_pos (by omega)]
       unfold mvB cel
       by_cases h2 : rdD 0 (rdD z53 ways (i : Int)).f0 (j : Int) = rdD 0 (rdD z53 ways (i : Int)).f0 ((j - 1 : Nat) : Int)
       ·rw [if_pos h2, decide_eq_true h2]; rfl
       ·rw [if_neg h2, decide_eq_false h2]; rfl)
     (fun kq m _ => by show spec_MovesOf.l1 (kq + 1) (i : Int) ways _ _ = _; rw [spec_MovesOf.l1, if_pos (by omega), if_neg (by omega)]) sp.toNat 1 (totN ways sp i) k (by omega) (by omega) (by omega) (by omega) (by omega)
    replace h1 : spec_MovesOf.l1 k (i : Int) ways (totN ways sp i : Int) 1 = some (totN ways sp (i + 1) : Int) := h1
    rw [spec_MovesOf.l0, if_pos (by omega), h1, Option.bind_some, wn (by omega)]
    exact ih (i + 1) k (by omega) (by omega)
 exact go ways.length 0 k (by omega) (by omega)
theorem implMovesAfter (i : Nat) (hi : i < ways.length) (k : Nat) (hk : 500 ≤ k) : impl_movesAfter.f k (rdD z53 ways (i : Int)) 0 = some (mvN ways sp i : Int) := by
 have hn := hL.n
 have hs := hL.spr
 have hli := hL.len i hi
 unfold impl_movesAfter.f
 have e0 : w64 ((if (0 : Int) > 0 then 0 else 0) + 1) = ((1 : Nat) : Int) := by rw [if_neg (by omega)]; exact w64e (by omega) (by omega)
 rw [e0]
 have h1 := count_from 1 (sp.toNat + 1) (by omega) (fun k m v => impl_movesAfter.l0 k (rdD z53 ways (i : Int)) m v) (mvB ways i) 0 (fun m => m)
  (fun kq m j hj0 hj _ => by
    show impl_movesAfter.l0 (kq + 1) _ _ _ = _
    have e1 : w64 ((j : Int) - 1) = ((j - 1 : Nat) : Int) := by rw [w64e (by omega) (by omega)]; omega
    rw [impl_movesAfter.l0, if_pos (by omega), if_pos (by omega), e1, if_pos (by omega), if_pos (by omega)]
    unfold mvB cel
    by_cases h2 : rdD 0 (rdD z53 ways (i : Int)).f0 (j : Int) = rdD 0 (rdD z53 ways (i : Int)).f0 ((j - 1 : Nat) : Int)
    ·rw [if_pos h2, decide_eq_true h2]; rfl
    ·rw [if_neg h2, decide_eq_false h2]; rfl)
  (fun kq m _ => by show impl_movesAfter.l0 (kq + 1) _ _ _ = _; rw [impl_movesAfter.l0, if_neg (by omega)]) sp.toNat 1 0 k (by omega) (by omega) (by omega) (by omega) (by omega)
 rw [Nat.zero_add] at h1
 exact h1
theorem implMoves (k : Nat) (hk : 5000 ≤ k) : impl_MovesOf.f k ways = some (totN ways sp ways.length : Int) := by
 have hn := hL.n
 have hs := hL.spr
 have go : ∀ (d i k : Nat), i + d = ways.length → d + 1000 < k → impl_MovesOf.l0 k ways (totN ways sp i : Int) (i : Int) = some (totN ways sp ways.length : Int) := by
  intro d
  induction d with
  | zero =>
    intro i k hi hk
    obtain ⟨k, rfl⟩ := ks (show 0 < k by omega)
    obtain rfl : i = ways.length := by omega
    rw [impl_MovesOf.l0, if_neg (by omega)]
  | succ d ih =>
    intro i k hi hk
    obtain ⟨k, rfl⟩ := ks (show 0 < k by omega)
    have ht := totN_len (ways := ways) (sp := sp) i
    have hm := mvN_len (ways := ways) (sp := sp) i
    have ht2 : sp.toNat * i ≤ 20 * 10 := Nat.mul_le_mul (by omega) (by omega)
    have e1 : w64 ((totN ways sp i : Int) + (mvN ways sp i : Int)) = (totN ways sp (i + 1) : Int) := by rw [w64e (by omega) (by omega), totN]; omega
    rw [impl_MovesOf.l0, if_pos (by omega), if_pos (by omega), implMovesAfter hL i (by omega) k (by omega), Option.bind_some, e1, wn (by omega)]
    exact ih (i + 1) k (by omega) (by omega)
 exact go ways.length 0 k (by omega) (by omega)
def firstL (ways : List S53) : List Int := (List.range' 0 ways.length).map fun i => cel ways i 0
omit hL in
theorem firstL_get (i : Nat) (hi : i < ways.length) : rdD 0 (firstL ways) (i : Int) = cel ways i 0 := by
 unfold firstL
 rw [rdn 0 _ i (by simpa using hi)]
 simp
theorem specForm (p : S32) (hp : p.f2 = ways) (hsp : p.f0 = sp) (k : Nat) (hk : 500 ≤ k) : spec_l12Form.f k (firstL ways) p = some true := by
 have hn := hL.n
 have hs := hL.spr
 have hfl : (firstL ways).length = ways.length := by simp [firstL]
 unfold spec_l12Form.f
 rw [hp, if_pos (by omega)]
 have h := all_gen ways.length (by omega) (fun k v => spec_l12Form.l0 k (firstL ways) p v) (fun _ => true) 0 true
  (fun kq i hi _ => by
    have hli := hL.len i hi
    show spec_l12Form.l0 (kq + 1) (firstL ways) p _ = _
    rw [spec_l12Form.l0, hp, hsp, if_pos (by omega), if_pos (by omega), if_pos (by omega), w64e (by omega) (by omega), if_pos hli, if_pos (by omega), firstL_get i hi, if_pos (show rdD 0 (rdD z53 ways (i : Int)).f0 0 = cel ways i 0 from rfl), if_pos rfl])
  (fun kq _ => by show spec_l12Form.l0 (kq + 1) (firstL ways) p _ = _; rw [spec_l12Form.l0, if_neg (by omega)]) ways.length 0 k (by omega) (by omega)
 exact h.trans (by simp)
theorem implForm (p : S32) (hp : p.f2 = ways) (hsp : p.f0 = sp) (k : Nat) (hk : 500 ≤ k) : impl_formFault.f k (firstL ways) p = some false := by
 have hn := hL.n
 have hs := hL.spr
 have hfl : (firstL ways).length = ways.length := by simp [firstL]
 unfold impl_formFault.f
 rw [hp, if_pos (by omega)]
 have h := find_gen ways.length (by omega) (fun k v => impl_formFault.l0 k p (firstL ways) v) (fun _ => false) 0 true false
  (fun kq i hi _ => by
    have hli := hL.len i hi
    show impl_formFault.l0 (kq + 1) p (firstL ways) _ = _
    rw [impl_formFault.l0, hp, hsp, if_pos (by omega), if_pos (by omega), w64e (by omega) (by omega), if_pos hli, if_pos (by omega), if_pos (by omega), firstL_get i hi, if_pos (show rdD 0 (rdD z53 ways (i : Int)).f0 0 = cel ways i 0 from rfl), if_neg (by simp)])
  (fun kq _ => by show impl_formFault.l0 (kq + 1) p (firstL ways) _ = _; rw [impl_formFault.l0, hp, if_neg (by omega)]) ways.length 0 k (by omega) (by omega)
 exact h.trans (by simp)
theorem implFirst (k : Nat) (hk : 500 ≤ k) : impl_firstCells.f k ways = some (firstL ways) := by
 have hn := hL.n
 have hs := hL.spr
 have go : ∀ (d i k : Nat) (acc : List Int), i + d = ways.length → d < k → acc.length ≤ i → impl_firstCells.l0 k ways acc (i : Int) = some (acc ++ (List.range' i d).map fun i => cel ways i 0) := by
  intro d
  induction d with
  | zero =>
    intro i k acc hi hk ha
    obtain ⟨k, rfl⟩ := ks (show 0 < k by omega)
    rw [impl_firstCells.l0, if_neg (by omega)]
    simp
  | succ d ih =>
    intro i k acc hi hk ha
    obtain ⟨k, rfl⟩ := ks (show 0 < k by omega)
    have hli := hL.len i (by omega)
    rw [impl_firstCells.l0, if_pos (by omega), if_pos (by omega), if_pos (by omega), if_pos (by omega), wn (by omega), ih (i + 1) k _ (by omega) (by omega) (by simp; omega), List.range'_succ, List.map_cons, List.append_assoc]
    rfl
 exact go ways.length 0 k [] (by omega) (by omega) (by simp)
def planR (g : S24) (ways : List S53) (sp : Int) (gl : List Int) (mv : Int) : Int :=
 if askB g (firstL ways) gl sp = true then (if stepsB g ways (sp.toNat + 1) = true then 3 else if timeB ways sp.toNat (fun t => meetB ways t || meetB ways (t + 1)) = true then 4 else if timeB ways sp.toNat (fun t => decide (0 < w64 ((cntN ways t 2 2 : Int).tdiv 2))) = true then 5
  else if timeB ways sp.toNat (fun t => decide (0 < (cntN ways t 3 10 : Int))) = true then 6 else if (gl.any fun x => !(sortL (endL ways sp)).contains x) = true then 7 else if mv = (totN ways sp ways.length : Int) then 0 else 8) else 1
omit hL in
theorem planR_steps {g : S24} {gl : List Int} {mv : Int} (h : planR g ways sp gl mv = 0) : stepsB g ways (sp.toNat + 1) = false := by
 unfold planR at h
 split at h
 ·split at h
  ·omega
  ·rename_i h1; simpa using h1
 ·omega
theorem plan_eq (g : S24) (hb : g.f2.size ≤ 1048576) (gl : List Int) (hgl : gl.length ≤ 1048576) (p : S32) (hp : p.f2 = ways) (hsp : p.f0 = sp) (k : Nat) (hk : 2400000 ≤ k) :
  spec_PlanFault.f k g (firstL ways) gl p = some (planR g ways sp gl p.f1) ∧ impl_PlanFault.f k g (firstL ways) gl p = some (planR g ways sp gl p.f1) := by
 have hn := hL.n
 have hs := hL.spr
 have hfl : (firstL ways).length = ways.length := by simp [firstL]
 unfold spec_PlanFault.f impl_PlanFault.f
 rw [hp, hsp, implEnds hL k (by omega), Option.bind_some, specAsk g hb _ gl sp (by omega) hgl k (by omega), implAsk g hb _ gl sp (by omega) hgl k (by omega), Option.bind_some, Option.bind_some]
 cases ha : askB g (firstL ways) gl sp
 ·unfold planR; rw [ha]; exact ⟨rfl, rfl⟩
 have hg : gridB g = true := by
  unfold askB at ha
  rw [Bool.and_eq_true] at ha
  exact ha.1
 rw [if_pos rfl, if_pos rfl, specForm hL p hp hsp k (by omega), implForm hL p hp hsp k (by omega), Option.bind_some, Option.bind_some, if_pos rfl, if_neg (by simp), specSteps hL g hg p hp hsp k (by omega), implSteps hL g hg k (by omega), Option.bind_some, Option.bind_some]
 cases hst : stepsB g ways (sp.toNat + 1)
 case true => unfold planR; rw [ha, hst]; exact ⟨rfl, rfl⟩
 rw [if_neg (show ¬ (false = true) by simp), if_neg (show ¬ (false = true) by simp)]
 show ((spec_PlanFault.l2 k p 4).bind _) = some _ ∧ _
 rw [specTimes hL p hp hsp k (by omega), Option.bind_some]
 rw [implTime hL (fun t => meetB ways t || meetB ways (t + 1)) _ (fun t ht => by unfold impl_PlanFault_1.f; rw [hp, implMeet hL t ht k (by omega)]; rfl) k (by omega), Option.bind_some]
 cases h4 : timeB ways sp.toNat (fun t => meetB ways t || meetB ways (t + 1))
 case true => unfold planR; rw [ha, hst, h4]; exact ⟨rfl, rfl⟩
 rw [if_neg (show ¬ (false = true) by simp), if_neg (show ¬ (false = true) by simp)]
 have hc : ∀ t, 0 ≤ w64 ((cntN ways t 2 2 : Int).tdiv 2) := fun t => by
  have := cntN_len (ways := ways) t 2 2
  have e : ((cntN ways t 2 2 : Int).tdiv 2) = ((cntN ways t 2 2 / 2 : Nat) : Int) := by rw [Int.tdiv_eq_ediv_of_nonneg (by omega)]; omega
  rw [e, w64e (by omega) (by omega)]
  omega
 rw [implTime hL (fun t => decide (0 < w64 ((cntN ways t 2 2 : Int).tdiv 2))) _ (fun t ht => by
  unfold impl_PlanFault_2.f
  rw [hp, (implCount hL t ht k (by omega)).1, Option.bind_some]
  have := hc t
  by_cases h : w64 ((cntN ways t 2 2 : Int).tdiv 2) = 0
  ·rw [decide_eq_true h, decide_eq_false (by omega)]; rfl
  ·rw [decide_eq_false h, decide_eq_true (by omega)]; rfl) k (by omega), Option.bind_some]
 cases h5 : timeB ways sp.toNat (fun t => decide (0 < w64 ((cntN ways t 2 2 : Int).tdiv 2)))
 case true => unfold planR; rw [ha, hst, h4, h5]; exact ⟨rfl, rfl⟩
 rw [if_neg (show ¬ (false = true) by simp), if_neg (show ¬ (false = true) by simp)]
 rw [implTime hL (fun t => decide (0 < (cntN ways t 3 10 : Int))) _ (fun t ht => by
  unfold impl_PlanFault_3.f
  rw [hp, (implCount hL t ht k (by omega)).2, Option.bind_some]
  by_cases h : (cntN ways t 3 10 : Int) = 0
  ·rw [decide_eq_true h, decide_eq_false (by omega)]; rfl
  ·rw [decide_eq_false h, decide_eq_true (by omega)]; rfl) k (by omega), Option.bind_some]
 cases h6 : timeB ways sp.toNat (fun t => decide (0 < (cntN ways t 3 10 : Int)))
 case true => unfold planR; rw [ha, hst, h4, h5, h6]; exact ⟨rfl, rfl⟩
 rw [if_neg (show ¬ (false = true) by simp), if_neg (show ¬ (false = true) by simp)]
 have hel : (endL ways sp).length ≤ 210 := by simp [endL]; omega
 have hsl := sortL_len _ hel
 show ((spec_EndsOf.f k ways).bind fun t278 => spec_PlanFault.l4 k gl t278 p 0) = some _ ∧ _
 rw [specEnds hL k (by omega), Option.bind_some]
 obtain ⟨fin, hfin⟩ : ∃ fin : Int, fin = if p.f1 = (totN ways sp ways.length : Int) then 0 else 8 := ⟨_, rfl⟩
 have hg7 := find_gen gl.length (by omega) (fun k v => spec_PlanFault.l4 k gl (sortL (endL ways sp)) p v) (fun i => !(sortL (endL ways sp)).contains (rdD 0 gl (i : Nat))) 10000 7 fin
  (fun kq i hi hkq => by
    show spec_PlanFault.l4 (kq + 1) _ _ _ _ = _
    rw [spec_PlanFault.l4, if_pos (by omega), if_pos (by omega), specHas _ _ (by omega) kq (by omega), Option.bind_some]
    cases (sortL (endL ways sp)).contains (rdD 0 gl (i : Int)) <;> rfl)
  (fun kq hkq => by
    show spec_PlanFault.l4 (kq + 1) _ _ _ _ = _
    rw [spec_PlanFault.l4, if_neg (by omega), hp, specMoves hL kq (by omega), Option.bind_some, hfin]
    split <;> rfl) gl.length 0 k (by omega) (by omega)
 rw [range_any gl (fun x => !(sortL (endL ways sp)).contains x) _ (fun i hi => by rw [rdn 0 _ i hi])] at hg7
 have hR : planR g ways sp gl p.f1 = if (gl.any fun x => !(sortL (endL ways sp)).contains x) = true then 7 else fin := by
  unfold planR
  rw [ha, hst, h4, h5, h6, hfin]
  rfl
 rw [hR]
 refine ⟨hg7, ?_⟩
 rw [contains1 gl _ (fun x => !(sortL (endL ways sp)).contains x) (fun x _ => by unfold impl_PlanFault_4.f; rw [implHas _ _ (by omega) k (by omega)]; rfl) (by omega) k (by omega), Option.bind_some]
 cases gl.any fun x => !(sortL (endL ways sp)).contains x
 ·rw [if_neg (by simp), if_neg (by simp), implMoves hL k (by omega), Option.bind_some, hfin]
  split <;> rfl
 ·rfl
end
end Go.Proofs.YtfhjipfkaemapaaGreat.Pu