/- Plain laws about what the functions compute: a plan goes onward. -/
import Derived.Test.YtfhjipfkaemapaaPuL
namespace Go.Proofs.Ytfhjipfkaemapaa.Pu
open Go Go.Av Go.Proofs Go.Proofs.Ytfhjipfkaemapaa.V
set_option linter.unusedVariables false
set_option linter.unusedSimpArgs false
/-! the least of all -/
theorem layerF_le : ∀ (l : List S62) (m : Int), layerF l m ≤ m ∧ ∀ j ∈ l, layerF l m ≤ j.f1
  | [], m => ⟨Int.le_refl _, fun j hj => by simp at hj⟩
  | x :: l, m => by
    have h := layerF_le l (if x.f1 < m then x.f1 else m)
    have e : layerF (x :: l) m = layerF l (if x.f1 < m then x.f1 else m) := rfl
    rw [e]
    obtain ⟨h1, h2⟩ := h
    by_cases hc : x.f1 < m
    · rw [if_pos hc] at h1 h2 ⊢
      refine ⟨by omega, fun j hj => ?_⟩
      rcases List.mem_cons.1 hj with rfl | hj
      · exact h1
      · exact h2 j hj
    · rw [if_neg hc] at h1 h2 ⊢
      refine ⟨h1, fun j hj => ?_⟩
      rcases List.mem_cons.1 hj with rfl | hj
      · omega
      · exact h2 j hj
theorem layerF_mem : ∀ (l : List S62) (m : Int), layerF l m = m ∨ ∃ j ∈ l, layerF l m = j.f1
  | [], m => .inl rfl
  | x :: l, m => by
    have e : layerF (x :: l) m = layerF l (if x.f1 < m then x.f1 else m) := rfl
    rw [e]
    rcases layerF_mem l (if x.f1 < m then x.f1 else m) with h | ⟨j, hj, h⟩
    · rw [h]
      split
      · exact .inr ⟨x, by simp, rfl⟩
      · exact .inl rfl
    · exact .inr ⟨j, List.mem_cons_of_mem _ hj, h⟩
theorem layer_le (l : List S62) : ∀ j ∈ l, layerI l ≤ j.f1 := by
  cases l with
  | nil => intro j hj; simp at hj
  | cons x l =>
    obtain ⟨h1, h2⟩ := layerF_le l x.f1
    intro j hj
    rcases List.mem_cons.1 hj with rfl | hj
    · exact h1
    · exact h2 j hj
theorem layer_mem (l : List S62) (h : 0 < l.length) : ∃ j ∈ l, layerI l = j.f1 := by
  cases l with
  | nil => simp at h
  | cons x l =>
    rcases layerF_mem l x.f1 with h | ⟨j, hj, h⟩
    · exact ⟨x, by simp, h⟩
    · exact ⟨j, List.mem_cons_of_mem _ hj, h⟩
theorem layer_eq (l : List S62) (L : Int) (h : 0 < l.length) (h1 : ∀ j ∈ l, L ≤ j.f1) (h2 : ∃ j ∈ l, j.f1 = L) : layerI l = L := by
  obtain ⟨j, hj, e⟩ := layer_mem l h
  obtain ⟨j', hj', e'⟩ := h2
  have a := h1 j hj
  have b := layer_le l j' hj'
  omega
/-! steps -/
def adv (j : S62) : S62 := ⟨j.f0, w64 (j.f1 + 1), j.f2⟩
def elig (ways : List S64) (sp L : Int) (js : List S62) (i : Nat) : Bool := decide ((rdD z62 js (i : Int)).f1 = L) && (decide (L < sp) && (!(rdD z62 js (i : Int)).f2 && decide (rdD 0 (rdD z64 ways (i : Int)).f0 (w64 ((rdD z62 js (i : Int)).f1 + 1)) = rdD 0 (rdD z64 ways (i : Int)).f0 (rdD z62 js (i : Int)).f1)))
theorem elig_congr {ways : List S64} {sp L : Int} {js js' : List S62} {i : Nat} (h : rdD z62 js (i : Int) = rdD z62 js' (i : Int)) : elig ways sp L js i = elig ways sp L js' i := by unfold elig; rw [h]
theorem elig_ne {ways : List S64} {sp L : Int} {js : List S62} {i : Nat} (h : (rdD z62 js (i : Int)).f1 ≠ L) : elig ways sp L js i = false := by unfold elig; rw [decide_eq_false h]; rfl
def first (c : Nat → Bool) : Nat → Nat → Option Nat
  | 0, _ => none
  | d + 1, i => if c i = true then some i else first c d (i + 1)
def oneStep (ways : List S64) (sp : Int) (js : List S62) : List S62 := match first (elig ways sp (layerI js) js) js.length 0 with
  | some i => js.set i (adv (rdD z62 js (i : Int)))
  | none => js
theorem first_none (c : Nat → Bool) : ∀ (d i : Nat), (∀ j, i ≤ j → j < i + d → c j = false) → first c d i = none
  | 0, i, h => rfl
  | d + 1, i, h => by rw [first, if_neg (by rw [h i (by omega) (by omega)]; simp), first_none c d (i + 1) (fun j h1 h2 => h j (by omega) (by omega))]
theorem first_some (c : Nat → Bool) (p : Nat) : ∀ (d i : Nat), i ≤ p → p < i + d → c p = true → (∀ j, i ≤ j → j < p → c j = false) → first c d i = some p
  | 0, i, h1, h2, _, _ => by omega
  | d + 1, i, h1, h2, h3, h4 => by
    by_cases e : i = p
    · subst e; rw [first, if_pos h3]
    · rw [first, if_neg (by rw [h4 i (by omega) (by omega)]; simp), first_some c p d (i + 1) (by omega) (by omega) h3 (fun j a b => h4 j (by omega) b)]
/-- All that may go are gone, those below p. -/
def A (c : Nat → Bool) (js : List S62) : Nat → List S62
  | 0 => js
  | p + 1 => if c p = true then (A c js p).set p (adv (rdD z62 js (p : Int))) else A c js p
def B (c : Nat → Bool) : Nat → Bool
  | 0 => false
  | p + 1 => if c p = true then true else B c p
def cnt (c : Nat → Bool) : Nat → Nat
  | 0 => 0
  | p + 1 => if c p = true then cnt c p + 1 else cnt c p
theorem A_len (c : Nat → Bool) (js : List S62) : ∀ p, (A c js p).length = js.length
  | 0 => rfl
  | p + 1 => by unfold A; split <;> simp [A_len c js p]
theorem rd_set (js : List S62) (p j : Nat) (x : S62) (hp : p < js.length) : rdD z62 (js.set p x) (j : Int) = if j = p then x else rdD z62 js (j : Int) := by
  simp only [rdD, Int.toNat_natCast, List.getD_eq_getElem?_getD]
  by_cases e : j = p
  · subst e; rw [if_pos rfl, List.getElem?_set_self hp]; rfl
  · rw [if_neg e, List.getElem?_set_ne (fun h => e h.symm)]
theorem A_rd (c : Nat → Bool) (js : List S62) : ∀ p, p ≤ js.length → ∀ j : Nat, rdD z62 (A c js p) (j : Int) = if j < p ∧ c j = true then adv (rdD z62 js (j : Int)) else rdD z62 js (j : Int)
  | 0, _, j => by rw [if_neg (by omega)]; rfl
  | p + 1, hp, j => by
    have ih := A_rd c js p (by omega) j
    unfold A
    split
    · rename_i hc
      rw [rd_set _ _ _ _ (by rw [A_len]; omega), ih]
      by_cases e : j = p
      · subst e; rw [if_pos rfl, if_pos ⟨by omega, hc⟩]
      · rw [if_neg e]
        by_cases h : j < p ∧ c j = true
        · rw [if_pos h, if_pos ⟨by omega, h.2⟩]
        · rw [if_neg h, if_neg (fun h' => h ⟨by omega, h'.2⟩)]
    · rename_i hc
      rw [ih]
      by_cases h : j < p ∧ c j = true
      · rw [if_pos h, if_pos ⟨by omega, h.2⟩]
      · rw [if_neg h, if_neg (fun h' => h ⟨by have : j ≠ p := fun e => hc (e ▸ h'.2); omega, h'.2⟩)]
def iter (f : List S62 → List S62) : Nat → List S62 → List S62
  | 0, x => x
  | n + 1, x => iter f n (f x)
theorem iter_add (f : List S62 → List S62) : ∀ (a b : Nat) (x : List S62), iter f (a + b) x = iter f b (iter f a x)
  | 0, b, x => by rw [Nat.zero_add]; rfl
  | a + 1, b, x => by rw [Nat.add_right_comm]; exact iter_add f a b (f x)
theorem iter_fix (f : List S62 → List S62) (x : List S62) (h : f x = x) : ∀ n, iter f n x = x
  | 0 => rfl
  | n + 1 => by rw [iter, h]; exact iter_fix f x h n
def mu (sp : Int) : List S62 → Nat
  | [] => 0
  | j :: l => (sp - j.f1).toNat + mu sp l
theorem mu_set (sp : Int) : ∀ (l : List S62) (i : Nat) (h : i < l.length) (x : S62), mu sp (l.set i x) + (sp - l[i].f1).toNat = mu sp l + (sp - x.f1).toNat
  | [], i, h, x => by simp at h
  | j :: l, 0, h, x => by simp only [List.set_cons_zero, mu, List.getElem_cons_zero]; omega
  | j :: l, i + 1, h, x => by
    have := mu_set sp l i (by simpa using h) x
    simp only [List.set_cons_succ, mu, List.getElem_cons_succ]
    omega
theorem mu_le (sp : Int) (hs : 0 ≤ sp) : ∀ (l : List S62), (∀ j ∈ l, 0 ≤ j.f1) → mu sp l ≤ l.length * sp.toNat
  | [], h => by simp [mu]
  | j :: l, h => by
    have h1 := mu_le sp hs l (fun x hx => h x (List.mem_cons_of_mem _ hx))
    have h2 := h j (by simp)
    rw [mu, List.length_cons, Nat.succ_mul]
    omega
/-- Jobs as they may be. -/
structure JIn (n : Nat) (sp : Int) (js : List S62) : Prop where
  len : js.length = n
  rng : ∀ j ∈ js, 0 ≤ j.f1 ∧ j.f1 ≤ sp
theorem JIn.at {n : Nat} {sp : Int} {js : List S62} (h : JIn n sp js) (i : Nat) (hi : i < n) : 0 ≤ (rdD z62 js (i : Int)).f1 ∧ (rdD z62 js (i : Int)).f1 ≤ sp := by
  rw [rdn z62 js i (by rw [h.len]; exact hi)]
  exact h.rng _ (List.getElem_mem _)
theorem JIn.le {n : Nat} {sp : Int} {js : List S62} (h : JIn n sp js) (i : Nat) (hi : i < n) : layerI js ≤ (rdD z62 js (i : Int)).f1 := by
  rw [rdn z62 js i (by rw [h.len]; exact hi)]
  exact layer_le js _ (List.getElem_mem _)
theorem some_cnt {c : Nat → Bool} : ∀ m, B c m = true → 1 ≤ cnt c m := by
  intro m
  induction m with
  | zero => intro h; cases h
  | succ m ih =>
    intro h
    unfold B at h
    unfold cnt
    split
    · omega
    · rename_i hc
      rw [if_neg hc] at h
      exact ih h
theorem A_in {ways : List S64} {sp : Int} {n : Nat} (hsp : 0 ≤ sp ∧ sp ≤ 20) {js : List S62} (h : JIn n sp js) (p : Nat) (hp : p ≤ n) : JIn n sp (A (elig ways sp (layerI js) js) js p) := by
  refine ⟨by rw [A_len, h.len], fun j hj => ?_⟩
  obtain ⟨i, hi, rfl⟩ := List.getElem_of_mem hj
  rw [A_len, h.len] at hi
  have e := A_rd (elig ways sp (layerI js) js) js p (by rw [h.len]; exact hp) i
  rw [rdn z62 _ i (by rw [A_len, h.len]; exact hi)] at e
  rw [e]
  have h1 := h.at i hi
  split
  · rename_i hc
    obtain ⟨_, hc⟩ := hc
    unfold elig at hc
    simp only [Bool.and_eq_true, decide_eq_true_eq] at hc
    unfold adv
    rw [w64e (by omega) (by omega)]
    simp only
    omega
  · exact h1
theorem none_fix {ways : List S64} {sp : Int} {n : Nat} {js : List S62} (h : JIn n sp js) (hb : B (elig ways sp (layerI js) js) n = false) : oneStep ways sp js = js ∧ A (elig ways sp (layerI js) js) js n = js := by
  have hall : ∀ (m : Nat), B (elig ways sp (layerI js) js) m = false → ∀ j, j < m → elig ways sp (layerI js) js j = false := by
    intro m
    induction m with
    | zero => intro _ j hj; omega
    | succ m ih =>
      intro hm j hj
      unfold B at hm
      split at hm
      · cases hm
      · rename_i hc
        by_cases e : j = m
        · subst e; simpa using hc
        · exact ih hm j (by omega)
  have hA : ∀ m, m ≤ n → A (elig ways sp (layerI js) js) js m = js := by
    intro m
    induction m with
    | zero => intro _; rfl
    | succ m ih => intro hm; unfold A; rw [if_neg (by rw [hall n hb m (by omega)]; simp)]; exact ih (by omega)
  refine ⟨?_, hA n (Nat.le_refl _)⟩
  unfold oneStep
  rw [first_none _ _ 0 (fun j _ hj => hall n hb j (by rw [h.len] at hj; omega))]
section
variable {ways : List S64} {sp : Int} {n : Nat} (hsp : 0 ≤ sp ∧ sp ≤ 20) (hn : 1 ≤ n ∧ n ≤ 10)
include hsp hn
/-- One pass over all is some single steps. -/
theorem pass_eq {js : List S62} (h : JIn n sp js) : ∀ p, p ≤ n → A (elig ways sp (layerI js) js) js p = iter (oneStep ways sp) (cnt (elig ways sp (layerI js) js) p) js ∧ mu sp (A (elig ways sp (layerI js) js) js p) + cnt (elig ways sp (layerI js) js) p = mu sp js := by
  intro p
  induction p with
  | zero => intro _; exact ⟨rfl, rfl⟩
  | succ p ih =>
    intro hp
    obtain ⟨h1, h2⟩ := ih (by omega)
    have hA := A_in (ways := ways) hsp h p (by omega)
    have hrd := A_rd (elig ways sp (layerI js) js) js p (by rw [h.len]; omega)
    unfold A cnt
    by_cases hc : elig ways sp (layerI js) js p = true
    · rw [if_pos hc, if_pos hc]
      have hc' := hc
      unfold elig at hc'
      simp only [Bool.and_eq_true, decide_eq_true_eq, Bool.not_eq_true'] at hc'
      obtain ⟨c1, c2, c3, c4⟩ := hc'
      have hb := h.at p (by omega)
      have e1 : rdD z62 (A (elig ways sp (layerI js) js) js p) (p : Int) = rdD z62 js (p : Int) := by rw [hrd p, if_neg (by omega)]
      have hlay : layerI (A (elig ways sp (layerI js) js) js p) = layerI js := by
        refine layer_eq _ _ (by rw [hA.len]; omega) (fun j hj => ?_) ⟨rdD z62 js (p : Int), ?_, c1⟩
        · obtain ⟨i, hi, rfl⟩ := List.getElem_of_mem hj
          have hi' : i < n := by rw [hA.len] at hi; exact hi
          have e := hrd i
          rw [rdn z62 _ i hi] at e
          rw [e]
          have h5 := h.le i hi'
          have h6 := h.at i hi'
          split
          · unfold adv
            rw [w64e (by omega) (by omega)]
            simp only
            omega
          · exact h5
        · rw [← e1, rdn z62 _ p (by rw [hA.len]; omega)]
          exact List.getElem_mem _
      have hfirst : first (elig ways sp (layerI (A (elig ways sp (layerI js) js) js p)) (A (elig ways sp (layerI js) js) js p)) (A (elig ways sp (layerI js) js) js p).length 0 = some p := by
        refine first_some _ p _ 0 (by omega) (by rw [hA.len]; omega) ?_ (fun j _ hj => ?_)
        · rw [hlay, elig_congr e1]
          exact hc
        · rw [hlay]
          have h6 := h.at j (by omega)
          by_cases hcj : elig ways sp (layerI js) js j = true
          · have e2 := hrd j
            rw [if_pos ⟨hj, hcj⟩] at e2
            refine elig_ne ?_
            rw [e2]
            unfold elig at hcj
            simp only [Bool.and_eq_true, decide_eq_true_eq] at hcj
            unfold adv
            rw [w64e (x := (rdD z62 js (j : Int)).f1 + 1) (by omega) (by omega)]
            simp only
            omega
          · have e2 := hrd j
            rw [if_neg (fun h => hcj h.2)] at e2
            rw [elig_congr e2]
            simpa using hcj
      have hone : oneStep ways sp (A (elig ways sp (layerI js) js) js p) = (A (elig ways sp (layerI js) js) js p).set p (adv (rdD z62 js (p : Int))) := by
        unfold oneStep
        rw [hfirst]
        simp only
        rw [e1]
      refine ⟨?_, ?_⟩
      · rw [iter_add, ← h1]
        exact hone.symm
      · have := mu_set sp (A (elig ways sp (layerI js) js) js p) p (by rw [hA.len]; omega) (adv (rdD z62 js (p : Int)))
        rw [← rdn z62 (A (elig ways sp (layerI js) js) js p) p (by rw [hA.len]; omega), e1] at this
        have e3 : (adv (rdD z62 js (p : Int))).f1 = (rdD z62 js (p : Int)).f1 + 1 := by unfold adv; rw [w64e (by omega) (by omega)]
        rw [e3] at this
        omega
    · rw [if_neg hc, if_neg hc]
      exact ⟨h1, h2⟩
end
/-! the loops -/
def endY (t : S47) (js : List S62) : S47 := if layerI js = t.f5.f0 then ⟨t.f0, t.f1, t.f2, t.f3, false, ⟨0, 0, []⟩, [], t.f7⟩ else ⟨t.f0, t.f1, t.f2, t.f3, t.f4, t.f5, js, t.f7⟩
theorem one_in {t : S47} {n : Nat} (hsp : 0 ≤ t.f5.f0 ∧ t.f5.f0 ≤ 20) {js : List S62} (h : JIn n t.f5.f0 js) : JIn n t.f5.f0 (oneStep t.f5.f2 t.f5.f0 js) := by
  unfold oneStep
  split
  · rename_i p hp
    have hex : p < n ∧ elig t.f5.f2 t.f5.f0 (layerI js) js p = true := by
      have go : ∀ (d i : Nat), first (elig t.f5.f2 t.f5.f0 (layerI js) js) d i = some p → p < i + d ∧ elig t.f5.f2 t.f5.f0 (layerI js) js p = true := by
        intro d
        induction d with
        | zero => intro i h; cases h
        | succ d ih =>
          intro i h
          unfold first at h
          split at h
          · rename_i hc; cases h; exact ⟨by omega, hc⟩
          · have := ih (i + 1) h; exact ⟨by omega, this.2⟩
      have := go _ _ hp
      rw [h.len] at this
      exact ⟨by omega, this.2⟩
    have ha := h.at p hex.1
    have he := hex.2
    unfold elig at he
    simp only [Bool.and_eq_true, decide_eq_true_eq] at he
    refine ⟨by simp [h.len], fun j hj => ?_⟩
    rcases List.mem_or_eq_of_mem_set hj with hj | rfl
    · exact h.rng j hj
    · unfold adv
      rw [w64e (by omega) (by omega)]
      simp only
      omega
  · exact h
section
variable {t : S47} {n : Nat} (hsp : 0 ≤ t.f5.f0 ∧ t.f5.f0 ≤ 20) (hn : 1 ≤ n ∧ n ≤ 10) (hw : t.f5.f2.length = n) (hc : ∀ w ∈ t.f5.f2, (w.f0.length : Int) = t.f5.f0 + 1)
include hsp hn hw hc
theorem specPass {js : List S62} (h : JIn n t.f5.f0 js) (L : Int) : ∀ (d i k : Nat), i + d = n → d < k → spec_Onward.l1 k js t L (i : Int) = some (match first (elig t.f5.f2 t.f5.f0 L js) d i with
    | some p => js.set p (adv (rdD z62 js (p : Int)))
    | none => js) := by
  intro d
  induction d with
  | zero =>
    intro i k hi hk
    obtain ⟨k, rfl⟩ := ks hk
    have := h.len
    rw [spec_Onward.l1, if_neg (by omega)]
    rfl
  | succ d ih =>
    intro i k hi hk
    obtain ⟨k, rfl⟩ := ks hk
    have hl := h.len
    have ha := h.at i (by omega)
    have hcl : ((rdD z64 t.f5.f2 (i : Int)).f0.length : Int) = t.f5.f0 + 1 := by rw [rdn z64 _ i (by omega)]; exact hc _ (List.getElem_mem _)
    have hw1 : w64 ((rdD z62 js (i : Int)).f1 + 1) = (rdD z62 js (i : Int)).f1 + 1 := w64e (by omega) (by omega)
    have next := ih (i + 1) k (by omega) (by omega)
    rw [spec_Onward.l1, if_pos (by omega), if_pos (by omega), if_pos (by omega), wn (by omega), first]
    by_cases he : elig t.f5.f2 t.f5.f0 L js i = true
    · rw [if_pos he]
      unfold elig at he
      simp only [Bool.and_eq_true, decide_eq_true_eq, Bool.not_eq_true'] at he
      obtain ⟨c1, c2, c3, c4⟩ := he
      rw [if_pos c1, if_pos c2, if_neg (by rw [c3]; simp), if_pos (by rw [hw1]; omega), if_pos (by rw [hw1]; omega), if_pos (by omega), if_pos (by omega), if_pos c4, Int.toNat_natCast]
      rfl
    · rw [if_neg he, ← next]
      unfold elig at he
      by_cases c1 : (rdD z62 js (i : Int)).f1 = L
      · rw [if_pos c1]
        by_cases c2 : L < t.f5.f0
        · rw [if_pos c2]
          cases c3 : (rdD z62 js (i : Int)).f2
          · rw [if_neg (by simp), if_pos (by rw [hw1]; omega), if_pos (by rw [hw1]; omega), if_pos (by omega), if_pos (by omega)]
            by_cases c4 : rdD 0 (rdD z64 t.f5.f2 (i : Int)).f0 (w64 ((rdD z62 js (i : Int)).f1 + 1)) = rdD 0 (rdD z64 t.f5.f2 (i : Int)).f0 (rdD z62 js (i : Int)).f1
            · exact absurd (by rw [decide_eq_true c1, decide_eq_true c2, c3, decide_eq_true c4]; rfl) he
            · rw [if_neg c4]
          · rw [if_pos rfl]
        · rw [if_neg c2]
      · rw [if_neg c1]
theorem specLoop : ∀ (d v k : Nat) (js : List S62), JIn n t.f5.f0 js → (v : Int) + d = n * (t.f5.f0 + 1) + 1 → 1200000 + d < k → spec_Onward.l0 k t js (v : Int) = some (endY t (iter (oneStep t.f5.f2 t.f5.f0) d js)) := by
  have hb : (n : Int) * (t.f5.f0 + 1) ≤ 10 * 21 := Int.mul_le_mul (by omega) (by omega) (by omega) (by omega)
  have hb0 : 0 ≤ (n : Int) * (t.f5.f0 + 1) := Int.mul_nonneg (by omega) (by omega)
  intro d
  induction d with
  | zero =>
    intro v k js h hv hk
    obtain ⟨k, rfl⟩ := ks hk
    have hl := h.len
    rw [spec_Onward.l0, hl, w64e (x := t.f5.f0 + 1) (by omega) (by omega), w64e (by omega) (by omega), if_neg (by omega), specLayer _ (by simp only; omega) k (by omega), Option.bind_some]
    unfold endY iter
    split <;> rfl
  | succ d ih =>
    intro v k js h hv hk
    obtain ⟨k, rfl⟩ := ks hk
    have hl := h.len
    have hp := specPass hsp hn hw hc h (layerI js) n 0 k (by omega) (by omega)
    rw [spec_Onward.l0, hl, w64e (x := t.f5.f0 + 1) (by omega) (by omega), w64e (x := (n : Int) * (t.f5.f0 + 1)) (by omega) (by omega), if_pos (by omega), specLayer _ (by simp only; omega) k (by omega), Option.bind_some]
    have hp : spec_Onward.l1 k js t (layerI js) 0 = _ := hp
    rw [hp, Option.bind_some, wn (by omega)]
    have e : (match first (elig t.f5.f2 t.f5.f0 (layerI js) js) n 0 with
      | some p => js.set p (adv (rdD z62 js (p : Int)))
      | none => js) = oneStep t.f5.f2 t.f5.f0 js := by unfold oneStep; rw [hl]
    rw [e]
    exact ih (v + 1) k _ (one_in hsp h) (by omega) (by omega)
theorem implPass {js : List S62} (h : JIn n t.f5.f0 js) : ∀ (d i k : Nat), i + d = n → d < k → impl_Onward.l1 k js t (layerI js) (A (elig t.f5.f2 t.f5.f0 (layerI js) js) js i) (i : Int) (B (elig t.f5.f2 t.f5.f0 (layerI js) js) i) = some (A (elig t.f5.f2 t.f5.f0 (layerI js) js) js n, B (elig t.f5.f2 t.f5.f0 (layerI js) js) n) := by
  intro d
  induction d with
  | zero =>
    intro i k hi hk
    obtain ⟨k, rfl⟩ := ks hk
    obtain rfl : i = n := by omega
    have hl := h.len
    rw [impl_Onward.l1, if_neg (by omega)]
  | succ d ih =>
    intro i k hi hk
    obtain ⟨k, rfl⟩ := ks hk
    have hl := h.len
    have ha := h.at i (by omega)
    have hcl : ((rdD z64 t.f5.f2 (i : Int)).f0.length : Int) = t.f5.f0 + 1 := by rw [rdn z64 _ i (by omega)]; exact hc _ (List.getElem_mem _)
    have hw1 : w64 ((rdD z62 js (i : Int)).f1 + 1) = (rdD z62 js (i : Int)).f1 + 1 := w64e (by omega) (by omega)
    have hAl : (A (elig t.f5.f2 t.f5.f0 (layerI js) js) js i).length = n := by rw [A_len, hl]
    have hrd : rdD z62 (A (elig t.f5.f2 t.f5.f0 (layerI js) js) js i) (i : Int) = rdD z62 js (i : Int) := by rw [A_rd _ _ i (by omega) i, if_neg (by omega)]
    have next := ih (i + 1) k (by omega) (by omega)
    have yes : elig t.f5.f2 t.f5.f0 (layerI js) js i = true → impl_Onward.l1 k js t (layerI js) ((A (elig t.f5.f2 t.f5.f0 (layerI js) js) js i).set i (adv (rdD z62 js (i : Int)))) ((i + 1 : Nat) : Int) true = some (A (elig t.f5.f2 t.f5.f0 (layerI js) js) js n, B (elig t.f5.f2 t.f5.f0 (layerI js) js) n) := fun he => by
      have e1 : A (elig t.f5.f2 t.f5.f0 (layerI js) js) js (i + 1) = (A (elig t.f5.f2 t.f5.f0 (layerI js) js) js i).set i (adv (rdD z62 js (i : Int))) := by rw [A, if_pos he]
      have e2 : B (elig t.f5.f2 t.f5.f0 (layerI js) js) (i + 1) = true := by rw [B, if_pos he]
      rw [e1, e2] at next
      exact next
    have no : elig t.f5.f2 t.f5.f0 (layerI js) js i = false → impl_Onward.l1 k js t (layerI js) (A (elig t.f5.f2 t.f5.f0 (layerI js) js) js i) ((i + 1 : Nat) : Int) (B (elig t.f5.f2 t.f5.f0 (layerI js) js) i) = some (A (elig t.f5.f2 t.f5.f0 (layerI js) js) js n, B (elig t.f5.f2 t.f5.f0 (layerI js) js) n) := fun he => by
      have e1 : A (elig t.f5.f2 t.f5.f0 (layerI js) js) js (i + 1) = A (elig t.f5.f2 t.f5.f0 (layerI js) js) js i := by rw [A, if_neg (by rw [he]; simp)]
      have e2 : B (elig t.f5.f2 t.f5.f0 (layerI js) js) (i + 1) = B (elig t.f5.f2 t.f5.f0 (layerI js) js) i := by rw [B, if_neg (by rw [he]; simp)]
      rw [e1, e2] at next
      exact next
    clear next
    rw [impl_Onward.l1, if_pos (by omega), if_pos (by omega), if_pos (by omega), if_pos (by omega), hrd, wn (by omega)]
    have hel : elig t.f5.f2 t.f5.f0 (layerI js) js i = (decide ((rdD z62 js (i : Int)).f1 = layerI js) && (decide (layerI js < t.f5.f0) && (!(rdD z62 js (i : Int)).f2 && decide (rdD 0 (rdD z64 t.f5.f2 (i : Int)).f0 (w64 ((rdD z62 js (i : Int)).f1 + 1)) = rdD 0 (rdD z64 t.f5.f2 (i : Int)).f0 (rdD z62 js (i : Int)).f1)))) := rfl
    generalize elig t.f5.f2 t.f5.f0 (layerI js) js i = el at hel yes no
    cases c3 : (rdD z62 js (i : Int)).f2
    · rw [if_neg (by simp)]
      by_cases c1 : (rdD z62 js (i : Int)).f1 = layerI js
      · rw [if_pos c1]
        by_cases c2 : layerI js < t.f5.f0
        · rw [if_pos c2, if_pos (by omega), if_pos (by omega), if_pos (by rw [hw1]; omega), if_pos (by rw [hw1]; omega)]
          by_cases c4 : rdD 0 (rdD z64 t.f5.f2 (i : Int)).f0 (rdD z62 js (i : Int)).f1 = rdD 0 (rdD z64 t.f5.f2 (i : Int)).f0 (w64 ((rdD z62 js (i : Int)).f1 + 1))
          · rw [if_pos c4, Int.toNat_natCast]
            have h5 := yes (by rw [hel, decide_eq_true c1, decide_eq_true c2, c3, decide_eq_true c4.symm]; rfl)
            unfold adv at h5
            rw [c3] at h5
            exact h5
          · rw [if_neg c4]
            have c5 : decide (rdD 0 (rdD z64 t.f5.f2 (i : Int)).f0 (w64 ((rdD z62 js (i : Int)).f1 + 1)) = rdD 0 (rdD z64 t.f5.f2 (i : Int)).f0 (rdD z62 js (i : Int)).f1) = false := decide_eq_false (fun e => c4 e.symm)
            exact no (by rw [hel, c5]; simp)
        · rw [if_neg c2]
          exact no (by rw [hel, decide_eq_false c2]; simp)
      · rw [if_neg c1]
        exact no (by rw [hel, decide_eq_false c1]; simp)
    · rw [if_pos rfl]
      exact no (by rw [hel, c3]; simp)
theorem implLoop : ∀ (m k : Nat) (js : List S62), JIn n t.f5.f0 js → mu t.f5.f0 js ≤ m → 1200000 + m < k → impl_Onward.l0 (k + 1) t js true = some (endY t (iter (oneStep t.f5.f2 t.f5.f0) m js)) := by
  have fin : ∀ (k : Nat) (js : List S62), JIn n t.f5.f0 js → 1200000 ≤ k → impl_Onward.l0 (k + 1) t js false = some (endY t js) := fun k js h hk => by
    have hl := h.len
    rw [impl_Onward.l0, if_neg (by simp), implLayer _ (by simp only; omega) k (by omega), Option.bind_some]
    unfold endY
    split <;> rfl
  intro m
  induction m using Nat.strongRecOn with
  | ind m ih =>
    intro k js h hm hk
    have hl := h.len
    have hp := implPass hsp hn hw hc h n 0 k (by omega) (by omega)
    have hp : impl_Onward.l1 k js t (layerI js) js 0 false = _ := hp
    rw [impl_Onward.l0, if_pos rfl, implLayer _ (by simp only; omega) k (by omega), Option.bind_some, hp, Option.bind_some]
    simp only
    obtain ⟨k, rfl⟩ := ks (show 0 < k by omega)
    cases hb : B (elig t.f5.f2 t.f5.f0 (layerI js) js) n
    · obtain ⟨h1, h2⟩ := none_fix h hb
      rw [h2, fin k js h (by omega), iter_fix _ _ h1]
    · obtain ⟨h1, h2⟩ := pass_eq (ways := t.f5.f2) hsp hn h n (Nat.le_refl _)
      have h3 := some_cnt n hb
      have h4 := A_in (ways := t.f5.f2) hsp h n (Nat.le_refl _)
      rw [ih (m - cnt (elig t.f5.f2 t.f5.f0 (layerI js) js) n) (by omega) k _ h4 (by omega) (by omega), h1, ← iter_add]
      congr 3
      omega
end
def onwY (y : S47) : S47 := endY y (iter (oneStep y.f5.f2 y.f5.f0) (y.f6.length * (y.f5.f0.toNat + 1) + 1) y.f6)
theorem onward_eq (y : S47) (hS : Sized y) (k : Nat) (hk : 5300000 ≤ k) : ∃ z, spec_Onward.f k y = some z ∧ impl_Onward.f k y = some z ∧ Sized z := by
  unfold spec_Onward.f impl_Onward.f
  rw [specCopyYard y hS k (by omega), copyYard y hS k (by omega), Option.bind_some, Option.bind_some]
  cases ha : y.f4
  · rw [if_neg (by simp), if_neg (by simp)]
    exact ⟨y, rfl, rfl, hS⟩
  rw [if_pos rfl, if_pos rfl]
  obtain ⟨b, e1, e2, hJ⟩ := jobs_eq y ha hS.robots hS.jobs hS.ways hS.cells k (by omega)
  rw [e1, e2, Option.bind_some, Option.bind_some]
  cases b
  · rw [if_neg (by simp), if_neg (by simp)]
    exact ⟨y, rfl, rfl, hS⟩
  have hF := hJ rfl
  have hin : JIn y.f6.length y.f5.f0 y.f6 := ⟨rfl, hF.done⟩
  rw [if_pos rfl, if_pos rfl]
  have hmu := mu_le y.f5.f0 hF.span.1 y.f6 (fun j hj => (hF.done j hj).1)
  have hT : (y.f5.f0.toNat : Int) = y.f5.f0 := Int.toNat_of_nonneg hF.span.1
  have hR : y.f6.length * (y.f5.f0.toNat + 1) ≤ 10 * 21 := Nat.mul_le_mul hF.jobs.2 (by have := hF.span; omega)
  have hmu2 : mu y.f5.f0 y.f6 ≤ y.f6.length * (y.f5.f0.toNat + 1) + 1 := by rw [Nat.mul_succ]; omega
  have hs := specLoop hF.span hF.jobs hF.ways hF.cells (y.f6.length * (y.f5.f0.toNat + 1) + 1) 0 k y.f6 hin (by rw [← hT]; simp) (by omega)
  obtain ⟨k', rfl⟩ := ks (show 0 < k by omega)
  have hi := implLoop hF.span hF.jobs hF.ways hF.cells (y.f6.length * (y.f5.f0.toNat + 1) + 1) k' y.f6 hin hmu2 (by omega)
  refine ⟨_, hs, hi, ?_⟩
  unfold endY
  split
  · exact ⟨hS.grid, hS.robots, hS.counts, by simp, fun w hw => by simp at hw, by simp, hS.goals⟩
  · have hlen : ∀ (m : Nat) (js : List S62), JIn y.f6.length y.f5.f0 js → (iter (oneStep y.f5.f2 y.f5.f0) m js).length = y.f6.length := by
      intro m
      induction m with
      | zero => intro js h; exact h.len
      | succ m ih => intro js h; exact ih _ (one_in hF.span h)
    exact ⟨hS.grid, hS.robots, hS.counts, hS.ways, hS.cells, by simp only; rw [hlen _ _ hin]; exact hS.jobs, hS.goals⟩
end Go.Proofs.Ytfhjipfkaemapaa.Pu
