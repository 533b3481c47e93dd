/- Regions that draw their order. -/
import Derived.Test.YtfhjipfkaemapaaGreatAvO
namespace Go.Av
open Go Go.RowKit
set_option linter.unusedVariables false
set_option linter.unusedSimpArgs false
variable {P : Program}
def aftOf (o : Oper) : List Nat := (o.after.toList.filter (Region.binds .any)).map (·.on)
def aft (ops : Array Oper) (i : Nat) : List Nat := match ops[i]? with
 | some o => aftOf o
 | none => []
def dstAt (ops : Array Oper) (i : Nat) : Option Nat := (ops[i]?).bind (·.dst)
inductive TC (ops : Array Oper) (j : Nat) : Nat → Prop
 | one {i : Nat} (h : j ∈ aft ops i) : TC ops j i
 | step {m i : Nat} (h : m ∈ aft ops i) (h' : TC ops j m) : TC ops j i
def tabGo : List Oper → List Nat → List Nat
 | [], acc => acc
 | o :: r, acc => tabGo r (acc ++ [(aftOf o).foldl (fun b m => b ||| (1 <<< m) ||| acc.getD m 0) 0])
theorem foldl_bit {acc : List Nat} {j : Nat} : ∀ (l : List Nat) (b : Nat), (l.foldl (fun b m => b ||| (1 <<< m) ||| acc.getD m 0) b).testBit j = true → b.testBit j = true ∨ ∃ m ∈ l, j = m ∨ (acc.getD m 0).testBit j = true
 | [], b, h => .inl h
 | m :: l, b, h => by
   rcases foldl_bit l _ h with h | ⟨m', hm, h⟩
   ·rw [Nat.testBit_or, Nat.testBit_or, Bool.or_eq_true, Bool.or_eq_true] at h
    rcases h with (h | h) | h
    ·exact .inl h
    ·refine .inr ⟨m, by simp, .inl ?_⟩
     rw [Nat.one_shiftLeft, Nat.testBit_two_pow] at h
     exact (by simpa using h : m = j).symm
    ·exact .inr ⟨m, by simp, .inr h⟩
   ·exact .inr ⟨m', List.mem_cons_of_mem _ hm, h⟩
theorem tabGo_ok {ops : Array Oper} : ∀ (l : List Oper) (acc : List Nat), (∀ j : Nat, l[j]? = ops[acc.length + j]?) → (∀ i j, (acc.getD i 0).testBit j = true → TC ops j i) → ∀ i j, ((tabGo l acc).getD i 0).testBit j = true → TC ops j i
 | [], acc, hl, h, i, j, hb => h i j hb
 | o :: l, acc, hl, h, i, j, hb => by
   refine tabGo_ok l _ (fun j => ?_) (fun i j hb => ?_) i j hb
   ·have := hl (j + 1)
    rw [List.getElem?_cons_succ] at this
    rw [this]
    simp only [List.length_append, List.length_singleton]
    congr 1
    omega
   ·rw [List.getD_eq_getElem?_getD] at hb
    rcases Nat.lt_or_ge i acc.length with hi | hi
    ·rw [List.getElem?_append_left hi] at hb
     exact h i j (by rw [List.getD_eq_getElem?_getD]; exact hb)
    ·rcases Nat.lt_or_ge acc.length i with hi' | hi'
     ·rw [List.getElem?_eq_none (by simp; omega)] at hb
      simp at hb
     ·have e : i = acc.length := by omega
      subst e
      rw [List.getElem?_append_right (Nat.le_refl _), Nat.sub_self] at hb
      simp only [List.getElem?_cons_zero, Option.getD_some] at hb
      have ho : ops[acc.length]? = some o := by have := hl 0; simpa using this.symm
      have ha : ∀ m, m ∈ aftOf o → m ∈ aft ops acc.length := fun m hm => by unfold aft; rw [ho]; exact hm
      rcases foldl_bit _ _ hb with hb | ⟨m, hm, rfl | hb⟩
      ·simp at hb
      ·exact .one (ha _ hm)
      ·exact .step (ha _ hm) (h m j hb)
def bf (tab : List Nat) (j i : Nat) : Bool := (tab.getD i 0).testBit j
def regLt (ops : Array Oper) : Bool := (List.range ops.size).all fun i => (aft ops i).all fun j => decide (j < i)
section
variable (P) (w0 : Base) (N : Nat) (ops : Array Oper)
def FixOk (i : Nat) (S S' : FS) : Prop := ∀ σ a w, Rel w0 N S σ a w → ∀ (Kk : Act → World → Prop) (Q : Exit → Act → World → Prop), (∀ a' w' σ', Rel w0 N S' σ' a' w' → Kk a' w') → wpOp P ops Q i Kk a w
end
section
variable {w0 : Base} {N : Nat} {ops : Array Oper} {tab : List Nat}
theorem regLt_lt (h : regLt ops = true) {i j : Nat} (hi : i < ops.size) (hj : j ∈ aft ops i) : j < i := by
 have h1 := List.all_eq_true.1 h i (List.mem_range.2 hi)
 simpa using List.all_eq_true.1 h1 j hj
def rest (listed : Array Bool) (n : Nat) : List Nat := (List.range n).filter fun i => !listed.getD i true
theorem split_at {l : List Nat} {i : Nat} (hs : l.Pairwise (· < ·)) (h : i ∈ l) : ∃ l1 l2, l = l1 ++ i :: l2 ∧ (∀ j ∈ l1, j < i) ∧ (l.filter fun j => j != i) = l1 ++ l2 := by
 induction l with
 | nil => simp at h
 | cons x l ih =>
   rw [List.pairwise_cons] at hs
   rcases List.mem_cons.1 h with rfl | h
   ·refine ⟨[], l, rfl, fun j hj => by simp at hj, ?_⟩
    simp only [List.filter_cons, bne_self_eq_false, Bool.false_eq_true, if_false, List.nil_append]
    rw [List.filter_eq_self]
    intro j hj
    have := hs.1 j hj
    simp; omega
   ·obtain ⟨l1, l2, rfl, h1, h2⟩ := ih hs.2 h
    have hx := hs.1 i h
    refine ⟨x :: l1, l2, rfl, fun j hj => ?_, ?_⟩
    ·rcases List.mem_cons.1 hj with rfl | hj
     ·exact hx
     ·exact h1 j hj
    ·rw [List.filter_cons, if_pos (by simp; omega), h2]
     rfl
theorem any_order {Q : Exit → Act → World → Prop} (hreg : regLt ops = true) (LX : List Nat → FS → FS → Prop) (hnil : ∀ S Sf, LX [] S Sf → S = Sf)
  (hpull : ∀ i l1 l2 S Sf, i < ops.size → LX (l1 ++ i :: l2) S Sf → (∀ j ∈ l1, j < i ∧ ¬ TC ops j i) → ∃ S1, FixOk P w0 N ops i S S1 ∧ LX (l1 ++ l2) S1 Sf) {Sf : FS} (hq : ∀ a' w' σ', Rel w0 N Sf σ' a' w' → Q .normal a' w') : ∀ (fuel : Nat) (listed : Array Bool) (S : FS) (σ : Sig) (a : Act) (w : World), listed.size = ops.size → (∀ i, listed.getD i false = true → ∀ j ∈ aft ops i, listed.getD j false = true) →
  (rest listed ops.size).length = fuel → LX (rest listed ops.size) S Sf → Rel w0 N S σ a w → wpAny P .any ops Q fuel listed a w := by
 intro fuel
 have hready : ∀ (listed : Array Bool) i, i ∈ Region.ready .any ops listed → i ∈ rest listed ops.size ∧ ∀ j ∈ aft ops i, listed.getD j false = true := by
  intro listed i hi
  unfold Region.ready at hi
  rw [List.mem_filter, Bool.and_eq_true] at hi
  obtain ⟨h1, h2, h3⟩ := hi
  refine ⟨by unfold rest; rw [List.mem_filter]; exact ⟨h1, h2⟩, fun j hj => ?_⟩
  have hlt := List.mem_range.1 h1
  unfold aft at hj
  rw [Array.getElem?_eq_getElem hlt] at h3 hj
  simp only [Option.map_some, Option.getD_some] at h3
  simp only [aftOf] at hj
  obtain ⟨e, he, rfl⟩ := List.mem_map.1 hj
  rw [List.mem_filter] at he
  have := Array.all_eq_true'.1 h3 e (by simpa using he.1)
  rw [he.2] at this
  simpa using this
 induction fuel with
 | zero =>
   intro listed S σ a w hsz hcl hl hL hr
   have h0 : rest listed ops.size = [] := List.length_eq_zero_iff.1 hl
   refine ⟨?_, ?_⟩
   ·rw [List.eq_nil_iff_forall_not_mem]
    intro i hi
    have := (hready listed i hi).1
    rw [h0] at this
    simp at this
   ·rw [h0] at hL
    cases hnil _ _ hL
    exact hq a w σ hr
 | succ fuel ih =>
   intro listed S σ a w hsz hcl hl hL hr
   refine ⟨fun h0 => ?_, fun i hi => ?_⟩
   ·exfalso
    -- the first of the rest is ready
    cases hrs : rest listed ops.size with
    | nil => rw [hrs] at hl; simp at hl
    | cons i0 l =>
      have hmem : i0 ∈ rest listed ops.size := by rw [hrs]; simp
      have hi0 : i0 ∈ Region.ready .any ops listed := by
       unfold Region.ready
       unfold rest at hmem
       rw [List.mem_filter] at hmem ⊢
       refine ⟨hmem.1, ?_⟩
       rw [Bool.and_eq_true]
       refine ⟨hmem.2, ?_⟩
       have hlt := List.mem_range.1 hmem.1
       rw [Array.getElem?_eq_getElem hlt]
       simp only [Option.map_some, Option.getD_some]
       rw [Array.all_eq_true']
       intro e he
       cases hb : Region.binds .any e with
       | false => simp
       | true =>
         simp only [Bool.not_true, Bool.false_or]
         have hea : e.on ∈ aft ops i0 := by
          unfold aft
          rw [Array.getElem?_eq_getElem hlt]
          exact List.mem_map.2 ⟨e, List.mem_filter.2 ⟨by simpa using he, hb⟩, rfl⟩
         have hlt2 := regLt_lt hreg hlt hea
         have hnr : e.on ∉ rest listed ops.size := by
          intro hm
          have hpw : (rest listed ops.size).Pairwise (· < ·) := List.Pairwise.filter _ List.pairwise_lt_range
          rw [hrs, List.pairwise_cons] at hpw
          rw [hrs] at hm
          rcases List.mem_cons.1 hm with e1 | hm
          ·omega
          ·have := hpw.1 _ hm; omega
         unfold rest at hnr
         rw [List.mem_filter] at hnr
         have h5 : ¬ (!listed.getD e.on true) = true := fun h => hnr ⟨List.mem_range.2 (by omega), h⟩
         have h6 : listed.getD e.on true = true := by simpa using h5
         rw [Array.getD_eq_getD_getElem?] at h6 ⊢
         have : e.on < listed.size := by omega
         rw [Array.getElem?_eq_getElem this] at h6 ⊢
         exact h6
      rw [h0] at hi0
      simp at hi0
   ·obtain ⟨hm, hdeps⟩ := hready listed i hi
    have hin : i < ops.size := by unfold rest at hm; exact List.mem_range.1 (List.mem_filter.1 hm).1
    have hpw : (rest listed ops.size).Pairwise (· < ·) := List.Pairwise.filter _ List.pairwise_lt_range
    obtain ⟨l1, l2, hsplit, hlt, hfil⟩ := split_at hpw hm
    rw [hsplit] at hL
    obtain ⟨S1, h1, h2⟩ := hpull i l1 l2 S Sf hin hL (fun j hj => ⟨hlt j hj, fun ha => by
     have tc : ∀ i', TC ops j i' → (∀ m ∈ aft ops i', listed.getD m false = true) → listed.getD j false = true := by
      intro i' h
      induction h with
      | one h => exact fun hm => hm _ h
      | step h h' ih => exact fun hm => ih (hcl _ (hm _ h))
     have h3 := tc i ha hdeps
     have h4 : j ∈ rest listed ops.size := by rw [hsplit]; exact List.mem_append_left _ hj
     unfold rest at h4
     have h5 := (List.mem_filter.1 h4).2
     rw [Array.getD_eq_getD_getElem?] at h3 h5
     have : j < listed.size := by have := hlt j hj; omega
     rw [Array.getElem?_eq_getElem this] at h3 h5
     simp only [Option.getD_some] at h3 h5
     rw [h3] at h5
     simp at h5⟩)
    have hrest : rest (listed.setIfInBounds i true) ops.size = l1 ++ l2 := by
     rw [← hfil]
     unfold rest
     rw [List.filter_filter]
     apply List.filter_congr
     intro j hj
     rw [Array.getD_eq_getD_getElem?, Array.getD_eq_getD_getElem?, Array.getElem?_setIfInBounds]
     by_cases e : i = j
     ·subst e
      simp [hsz, hin]
     ·rw [if_neg e]
      have : (j != i) = true := by simp; omega
      rw [this, Bool.true_and]
    refine h1 σ a w hr _ _ fun a' w' σ' hr' => ?_
    refine ih _ S1 σ' a' w' (by simpa using hsz) (fun i' hi' j hj => ?_) ?_ (by rw [hrest]; exact h2) hr'
    ·have mono : ∀ x, listed.getD x false = true → (listed.setIfInBounds i true).getD x false = true := fun x hx => by
      rw [Array.getD_eq_getD_getElem?] at hx ⊢
      rw [Array.getElem?_setIfInBounds]
      split
      ·split <;> simp_all
      ·exact hx
     by_cases e : i' = i
     ·subst e; exact mono j (hdeps j hj)
     ·refine mono j (hcl i' ?_ j hj)
      rw [Array.getD_eq_getD_getElem?] at hi' ⊢
      rw [Array.getElem?_setIfInBounds, if_neg (fun h => e h.symm)] at hi'
      exact hi'
    rw [hrest]
    have : (rest listed ops.size).length = (l1 ++ l2).length + 1 := by rw [hsplit]; simp; omega
    omega
end
end Go.Av