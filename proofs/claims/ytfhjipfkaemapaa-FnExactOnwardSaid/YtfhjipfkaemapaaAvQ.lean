/- Regions that draw their order. -/
import Derived.Test.YtfhjipfkaemapaaAvO
namespace Go.Av
open Go Go.RowKit
set_option linter.unusedVariables false
set_option linter.unusedSimpArgs false
variable {P : Program}

def aftOf (o : Oper) : List Nat := (o.after.toList.filter (Region.binds .any)).map (·.on)
def aft (ops : Array Oper) (i : Nat) : List Nat := match ops[i]? with
  | some o => aftOf o
  | none => []
def dstAt (ops : Array Oper) (i : Nat) : Option Nat := (ops[i]?).bind (·.dst)
/-- j is carried out ahead of i, whatever the order. -/
inductive TC (ops : Array Oper) (j : Nat) : Nat → Prop
  | one {i : Nat} (h : j ∈ aft ops i) : TC ops j i
  | step {m i : Nat} (h : m ∈ aft ops i) (h' : TC ops j m) : TC ops j i
/-- For each operation, as bits, those that are carried out ahead of it. -/
def tabGo : List Oper → List Nat → List Nat
  | [], acc => acc
  | o :: r, acc => tabGo r (acc ++ [(aftOf o).foldl (fun b m => b ||| (1 <<< m) ||| acc.getD m 0) 0])
theorem foldl_bit {acc : List Nat} {j : Nat} : ∀ (l : List Nat) (b : Nat), (l.foldl (fun b m => b ||| (1 <<< m) ||| acc.getD m 0) b).testBit j = true → b.testBit j = true ∨ ∃ m ∈ l, j = m ∨ (acc.getD m 0).testBit j = true
  | [], b, h => .inl h
  | m :: l, b, h => by
    rcases foldl_bit l _ h with h | ⟨m', hm, h⟩
    · rw [Nat.testBit_or, Nat.testBit_or, Bool.or_eq_true, Bool.or_eq_true] at h
      rcases h with (h | h) | h
      · exact .inl h
      · refine .inr ⟨m, by simp, .inl ?_⟩
        rw [Nat.one_shiftLeft, Nat.testBit_two_pow] at h
        exact (by simpa using h : m = j).symm
      · exact .inr ⟨m, by simp, .inr h⟩
    · exact .inr ⟨m', List.mem_cons_of_mem _ hm, h⟩
theorem tabGo_ok {ops : Array Oper} : ∀ (l : List Oper) (acc : List Nat), (∀ j : Nat, l[j]? = ops[acc.length + j]?) → (∀ i j, (acc.getD i 0).testBit j = true → TC ops j i) → ∀ i j, ((tabGo l acc).getD i 0).testBit j = true → TC ops j i
  | [], acc, hl, h, i, j, hb => h i j hb
  | o :: l, acc, hl, h, i, j, hb => by
    refine tabGo_ok l _ (fun j => ?_) (fun i j hb => ?_) i j hb
    · have := hl (j + 1)
      rw [List.getElem?_cons_succ] at this
      rw [this]
      simp only [List.length_append, List.length_singleton]
      congr 1
      omega
    · rw [List.getD_eq_getElem?_getD] at hb
      rcases Nat.lt_or_ge i acc.length with hi | hi
      · rw [List.getElem?_append_left hi] at hb
        exact h i j (by rw [List.getD_eq_getElem?_getD]; exact hb)
      · rcases Nat.lt_or_ge acc.length i with hi' | hi'
        · rw [List.getElem?_eq_none (by simp; omega)] at hb
          simp at hb
        · have e : i = acc.length := by omega
          subst e
          rw [List.getElem?_append_right (Nat.le_refl _), Nat.sub_self] at hb
          simp only [List.getElem?_cons_zero, Option.getD_some] at hb
          have ho : ops[acc.length]? = some o := by have := hl 0; simpa using this.symm
          have ha : ∀ m, m ∈ aftOf o → m ∈ aft ops acc.length := fun m hm => by unfold aft; rw [ho]; exact hm
          rcases foldl_bit _ _ hb with hb | ⟨m, hm, rfl | hb⟩
          · simp at hb
          · exact .one (ha _ hm)
          · exact .step (ha _ hm) (h m j hb)
/-- Whose sites the operation makes or writes: those of the temporary that is named. -/
def kdOf (o : Oper) : Option Nat := match o.op with
  | .store _ (.tmp t) _ => some t
  | .alloc _ => o.dst
  | .box _ _ => o.dst
  | .buildSlice _ _ _ => o.dst
  | .makeSlice _ _ _ => o.dst
  | .call _ => o.dst
  | _ => none
/-- What is known of a region ahead: who is carried out ahead of whom (as bits); whose sites an operation writes besides. -/
structure Tab where
  l : List Nat
  x : List (Nat × Nat)
def kdAt (ops : Array Oper) (tab : Tab) (i : Nat) : List Nat := (match (ops[i]?).bind kdOf with
  | some d => [d]
  | none => []) ++ (tab.x.filter fun p => p.1 == i).map Prod.snd
theorem kdAt_of {ops : Array Oper} {tab : Tab} {i d : Nat} {o : Oper} (hi : ops[i]? = some o) (h : kdOf o = some d) : d ∈ kdAt ops tab i := by
  unfold kdAt
  rw [hi, Option.bind_some, h]
  simp
def bf (tab : Tab) (j i : Nat) : Bool := (tab.l.getD i 0).testBit j
/-- The temporaries (and the sites) of the region that operation i must not look at. -/
def forbT (ops : Array Oper) (tab : Tab) (i t : Nat) : Bool := (List.range ops.size).any fun j => j != i && dstAt ops j == some t && !bf tab j i && !bf tab i j
def forbS (ops : Array Oper) (tab : Tab) (i t : Nat) : Bool := (List.range ops.size).any fun j => j != i && (kdAt ops tab j).contains t && !bf tab j i && !bf tab i j
def restr (ops : Array Oper) (tab : Tab) (i : Nat) (S : FS) : FS := ⟨fun t => if forbT ops tab i t then .any else S.T t, fun s => if forbS ops tab i (s / 64) then none else S.H s⟩

/-- Nobody waits for a later one; and two that are not told apart in time write two temporaries, and sites of two. -/
def regOk (ops : Array Oper) (tab : Tab) : Bool := (List.range ops.size).all fun i => (aft ops i).all (fun j => decide (j < i)) && (List.range i).all fun j => bf tab j i || ((match dstAt ops i, dstAt ops j with
  | some d, some d' => d != d'
  | _, _ => true) && (kdAt ops tab i).all fun d => !(kdAt ops tab j).contains d)

section
variable (P) (w0 : Base) (N : Nat) (ops : Array Oper) (tab : Tab)
/-- Operation i, in whatever state looks like S to it, leaves E. -/
structure FreeOk (i : Nat) (o : Oper) (S : FS) (E : Eff) (fresh : Bool) : Prop where
  keys : ∀ s, E.news.lookup s ≠ none → s / 64 ∈ kdAt ops tab i
  run : ∀ S1 : FS, restr ops tab i S1 = restr ops tab i S → (fresh = true → ∀ s, E.news.lookup s ≠ none → S1.H s = none) → ∀ σ a w, Rel w0 N S1 σ a w → ∀ (Kk : Act → World → Prop) (Q : Exit → Act → World → Prop),
    (∀ a' w' σ', Rel w0 N (S1.app o.dst E) σ' a' w' → Kk a' w') → wpOp P ops Q i Kk a w
def FixOk (i : Nat) (S S' : FS) : Prop := ∀ σ a w, Rel w0 N S σ a w → ∀ (Kk : Act → World → Prop) (Q : Exit → Act → World → Prop), (∀ a' w' σ', Rel w0 N S' σ' a' w' → Kk a' w') → wpOp P ops Q i Kk a w
/-- The operations of the list, in this order, lead from S to S'. -/
inductive Lex : List Nat → FS → FS → Prop
  | nil (S : FS) : Lex [] S S
  | free {i : Nat} {l : List Nat} {o : Oper} {S Sf : FS} {E : Eff} {fresh : Bool} (hi : ops[i]? = some o) (h : FreeOk P w0 N ops tab i o S E fresh) (hf : fresh = true → ∀ s, E.news.lookup s ≠ none → S.H s = none) (hl : Lex l (S.app o.dst E) Sf) : Lex (i :: l) S Sf
  | fixed {i : Nat} {l : List Nat} {S S1 Sf : FS} (h : FixOk P w0 N ops i S S1) (h1 : ∀ j, j < i → TC ops j i) (h2 : ∀ j ∈ l, TC ops i j) (hl : Lex l S1 Sf) : Lex (i :: l) S Sf
end

section
variable {w0 : Base} {N : Nat} {ops : Array Oper} {tab : Tab}
theorem regOk_lt (h : regOk ops tab = true) {i j : Nat} (hi : i < ops.size) (hj : j ∈ aft ops i) : j < i := by
  have h1 := List.all_eq_true.1 h i (List.mem_range.2 hi)
  rw [Bool.and_eq_true] at h1
  simpa using List.all_eq_true.1 h1.1 j hj
theorem TC.lt (h : regOk ops tab = true) {i j : Nat} (ht : TC ops j i) : i < ops.size → j < i := by
  induction ht with
  | one hj => exact fun hi => regOk_lt h hi hj
  | step hm _ ih => exact fun hi => by have h1 := regOk_lt h hi hm; have := ih (by omega); omega
theorem regOk_dst (h : regOk ops tab = true) {i j : Nat} (hi : i < ops.size) (hj : j < i) (hn : bf tab j i = false) :
    (∀ d, dstAt ops i = some d → dstAt ops j ≠ some d) ∧ ∀ d, d ∈ kdAt ops tab i → d ∉ kdAt ops tab j := by
  have h3 := List.all_eq_true.1 h i (List.mem_range.2 hi)
  rw [Bool.and_eq_true] at h3
  have h4 := List.all_eq_true.1 h3.2 j (List.mem_range.2 hj)
  rw [hn, Bool.false_or, Bool.and_eq_true] at h4
  refine ⟨fun d h1 h2 => ?_, fun d h1 h2 => ?_⟩
  · have := h4.1; rw [h1, h2] at this; simp at this
  · have := List.all_eq_true.1 h4.2 d h1
    rw [List.contains_iff_mem.2 h2] at this
    cases this
theorem restr_app {i : Nat} {S : FS} {E : Eff} {dst : Option Nat} (hT : ∀ d, dst = some d → forbT ops tab i d = true) (hS : ∀ s, E.news.lookup s ≠ none → forbS ops tab i (s / 64) = true) : restr ops tab i (S.app dst E) = restr ops tab i S := by
  have hH : ∀ s, (if forbS ops tab i (s / 64) then none else (S.add E.news).H s) = (if forbS ops tab i (s / 64) then none else S.H s) := fun s => by
    by_cases hl : E.news.lookup s = none
    · simp only [FS.add]; rw [hl]
    · rw [if_pos (hS s hl), if_pos (hS s hl)]
  unfold restr FS.app FS.put
  cases dst with
  | none =>
    simp only
    congr 1
    funext s
    exact hH s
  | some d =>
    simp only
    congr 1
    · funext t
      by_cases e : t = d
      · subst e; rw [if_pos (hT t rfl), if_pos (hT t rfl)]
      · simp only [upd]; rw [if_neg e]; rfl
    · funext s
      exact hH s
theorem forbT_of {i j d : Nat} (hj : j < ops.size) (hne : j ≠ i) (hd : dstAt ops j = some d) (h1 : bf tab j i = false) (h2 : bf tab i j = false) : forbT ops tab i d = true :=
  List.any_eq_true.2 ⟨j, List.mem_range.2 hj, by simp [hne, hd, h1, h2]⟩
theorem forbS_of {i j d : Nat} (hj : j < ops.size) (hne : j ≠ i) (hd : d ∈ kdAt ops tab j) (h1 : bf tab j i = false) (h2 : bf tab i j = false) : forbS ops tab i d = true :=
  List.any_eq_true.2 ⟨j, List.mem_range.2 hj, by simp [hne, hd, h1, h2]⟩

theorem app_comm {S : FS} {d d' : Option Nat} {E E' : Eff} (hne : ∀ x, d = some x → d' ≠ some x) (hk : ∀ s, E.news.lookup s ≠ none → E'.news.lookup s = none) : (S.app d E).app d' E' = (S.app d' E').app d E := by
  have hT : ∀ t, ((S.app d E).app d' E').T t = ((S.app d' E').app d E).T t := fun t => by
    cases d with
    | none => cases d' <;> rfl
    | some d =>
      cases d' with
      | none => rfl
      | some d' =>
        have hne' : d ≠ d' := fun e => hne d rfl (by rw [e])
        simp only [FS.app, FS.put, FS.add, upd]
        by_cases e : t = d
        · subst e; rw [if_neg hne']; simp
        · by_cases e' : t = d'
          · subst e'; simp [e]
          · simp [e, e']
  have hH : ∀ s, ((S.app d E).app d' E').H s = ((S.app d' E').app d E).H s := fun s => by
    have e1 : ∀ (S : FS) (d : Option Nat) (E : Eff), (S.app d E).H s = match E.news.lookup s with | some c => some c | none => S.H s := fun S d E => by cases d <;> rfl
    rw [e1, e1, e1, e1]
    cases hl : E.news.lookup s with
    | none => cases hl' : E'.news.lookup s <;> rfl
    | some c => rw [hk s (by rw [hl]; simp)]
  have : ∀ A B : FS, A.T = B.T → A.H = B.H → A = B := fun A B h1 h2 => by cases A; cases B; simp only at h1 h2; rw [h1, h2]
  exact this _ _ (funext hT) (funext hH)

/-- Whichever may come next may come first. -/
theorem Lex.pull (hreg : regOk ops tab = true) (htab : ∀ i j, bf tab j i = true → TC ops j i) {i : Nat} {l2 : List Nat} (hin : i < ops.size) : ∀ (l1 : List Nat) (S Sf : FS), Lex P w0 N ops tab (l1 ++ i :: l2) S Sf → (∀ j ∈ l1, j < i ∧ ¬ TC ops j i) →
    ∃ S1, FixOk P w0 N ops i S S1 ∧ Lex P w0 N ops tab (l1 ++ l2) S1 Sf ∧ (l1 = [] ∨ ∃ o E fr, ops[i]? = some o ∧ FreeOk P w0 N ops tab i o S E fr ∧ (fr = true → ∀ s, E.news.lookup s ≠ none → S.H s = none) ∧ S1 = S.app o.dst E)
  | [], S, Sf, h, hj => by
    cases h with
    | free hi h hf hl => exact ⟨_, fun σ a w hr Kk Q hK => h.run S rfl hf σ a w hr Kk Q hK, hl, .inl rfl⟩
    | fixed h h1 h2 hl => exact ⟨_, h, hl, .inl rfl⟩
  | j :: l1, S, Sf, h, hj => by
    obtain ⟨hji, hjt⟩ := hj j List.mem_cons_self
    have hjn : j ∉ aft ops i := fun h => hjt (.one h)
    cases h with
    | fixed h h1 h2 hl => exact absurd (h2 i (by simp)) hjt
    | @free _ _ oj _ _ Ej frj hoj hF hf hl =>
      have step : ∀ o E fr, ops[i]? = some o → FreeOk P w0 N ops tab i o (S.app oj.dst Ej) E fr → (fr = true → ∀ s, E.news.lookup s ≠ none → (S.app oj.dst Ej).H s = none) → Lex P w0 N ops tab (l1 ++ l2) ((S.app oj.dst Ej).app o.dst E) Sf →
          ∃ S1, FixOk P w0 N ops i S S1 ∧ Lex P w0 N ops tab (j :: l1 ++ l2) S1 Sf ∧ (j :: l1 = [] ∨ ∃ o E fr, ops[i]? = some o ∧ FreeOk P w0 N ops tab i o S E fr ∧ (fr = true → ∀ s, E.news.lookup s ≠ none → S.H s = none) ∧ S1 = S.app o.dst E) := by
        intro o E fr ho hE hfE hrest
        have hjs : j < ops.size := by omega
        have b1 : bf tab j i = false := by
          cases hb : bf tab j i with
          | false => rfl
          | true => exact absurd (htab i j hb) hjt
        have b2 : bf tab i j = false := by
          cases hb : bf tab i j with
          | false => rfl
          | true => have := (htab j i hb).lt hreg hjs; omega
        have dj : ∀ d, oj.dst = some d → dstAt ops j = some d := fun d h => by unfold dstAt; rw [hoj]; exact h
        have di : ∀ d, o.dst = some d → dstAt ops i = some d := fun d h => by unfold dstAt; rw [ho]; exact h
        have kj : ∀ s, Ej.news.lookup s ≠ none → s / 64 ∈ kdAt ops tab j := hF.keys
        have ki : ∀ s, E.news.lookup s ≠ none → s / 64 ∈ kdAt ops tab i := hE.keys
        obtain ⟨ne1, ne2⟩ := regOk_dst hreg hin hji b1
        have hdne : ∀ x, oj.dst = some x → o.dst ≠ some x := fun x h1 h2 => ne1 x (di x h2) (dj x h1)
        have hkne : ∀ s, Ej.news.lookup s ≠ none → E.news.lookup s = none := fun s h1 => by
          cases hl : E.news.lookup s with
          | none => rfl
          | some c => exact absurd (kj s h1) (ne2 _ (ki s (by rw [hl]; simp)))
        have r1 : restr ops tab i (S.app oj.dst Ej) = restr ops tab i S := restr_app (fun d h => forbT_of hjs (by omega) (dj d h) b1 b2) (fun s hs => forbS_of hjs (by omega) (kj s hs) b1 b2)
        have r2 : restr ops tab j (S.app o.dst E) = restr ops tab j S := restr_app (fun d h => forbT_of hin (by omega) (di d h) b2 b1) (fun s hs => forbS_of hin (by omega) (ki s hs) b2 b1)
        have hadd : ∀ (S : FS) (d : Option Nat) (E : Eff) s, (S.app d E).H s = match E.news.lookup s with | some c => some c | none => S.H s := fun S d E s => by cases d <;> rfl
        have fS : fr = true → ∀ s, E.news.lookup s ≠ none → S.H s = none := fun hfr s hs => by
          have h1 := hfE hfr s hs
          rw [hadd] at h1
          split at h1
          · cases h1
          · exact h1
        have hEi : FreeOk P w0 N ops tab i o S E fr := ⟨hE.keys, fun S1 hr => hE.run S1 (hr.trans r1.symm)⟩
        have hEj : FreeOk P w0 N ops tab j oj (S.app o.dst E) Ej frj := ⟨hF.keys, fun S1 hr => hF.run S1 (hr.trans r2)⟩
        refine ⟨S.app o.dst E, ?_, ?_, .inr ⟨o, E, fr, ho, hEi, fS, rfl⟩⟩
        · intro σ a w hr Kk Q hK
          exact hEi.run S rfl fS σ a w hr Kk Q hK
        · refine .free hoj hEj (fun hfr s hs => ?_) ?_
          · rw [hadd]
            have : E.news.lookup s = none := by
              cases hl : E.news.lookup s with
              | none => rfl
              | some c => rw [hkne s hs] at hl; cases hl
            rw [this]
            exact hf hfr s hs
          · rw [← app_comm hdne hkne]
            exact hrest
      cases l1 with
      | nil =>
        cases hl with
        | free hi h hf' hl' => exact step _ _ _ hi h hf' hl'
        | fixed h h1 h2 hl' => exact absurd (h1 j hji) hjt
      | cons j' l1 =>
        obtain ⟨S1, h1, h2, h3⟩ := Lex.pull hreg htab hin (j' :: l1) _ _ hl (fun x hx => hj x (List.mem_cons_of_mem _ hx))
        rcases h3 with h3 | ⟨o, E, fr, ho, hE, hfE, rfl⟩
        · cases h3
        · exact step o E fr ho hE hfE h2

/-- The operations that are not yet listed, in the text's order. -/
def rest (listed : Array Bool) (n : Nat) : List Nat := (List.range n).filter fun i => !listed.getD i true

theorem split_at {l : List Nat} {i : Nat} (hs : l.Pairwise (· < ·)) (h : i ∈ l) : ∃ l1 l2, l = l1 ++ i :: l2 ∧ (∀ j ∈ l1, j < i) ∧ (l.filter fun j => j != i) = l1 ++ l2 := by
  induction l with
  | nil => simp at h
  | cons x l ih =>
    rw [List.pairwise_cons] at hs
    rcases List.mem_cons.1 h with rfl | h
    · refine ⟨[], l, rfl, fun j hj => by simp at hj, ?_⟩
      simp only [List.filter_cons, bne_self_eq_false, Bool.false_eq_true, if_false, List.nil_append]
      rw [List.filter_eq_self]
      intro j hj
      have := hs.1 j hj
      simp; omega
    · obtain ⟨l1, l2, rfl, h1, h2⟩ := ih hs.2 h
      have hx := hs.1 i h
      refine ⟨x :: l1, l2, rfl, fun j hj => ?_, ?_⟩
      · rcases List.mem_cons.1 hj with rfl | hj
        · exact hx
        · exact h1 j hj
      · rw [List.filter_cons, if_pos (by simp; omega), h2]
        rfl

theorem Lex.any {Q : Exit → Act → World → Prop} (hreg : regOk ops tab = true) (htab : ∀ i j, bf tab j i = true → TC ops j i) {Sf : FS} (hq : ∀ a' w' σ', Rel w0 N Sf σ' a' w' → Q .normal a' w') : ∀ (fuel : Nat) (listed : Array Bool) (S : FS) (σ : Sig) (a : Act) (w : World), listed.size = ops.size → (∀ i, listed.getD i false = true → ∀ j ∈ aft ops i, listed.getD j false = true) →
    (rest listed ops.size).length = fuel → Lex P w0 N ops tab (rest listed ops.size) S Sf → Rel w0 N S σ a w → wpAny P .any ops Q fuel listed a w := by
  intro fuel
  have hready : ∀ (listed : Array Bool) i, i ∈ Region.ready .any ops listed → i ∈ rest listed ops.size ∧ ∀ j ∈ aft ops i, listed.getD j false = true := by
    intro listed i hi
    unfold Region.ready at hi
    rw [List.mem_filter, Bool.and_eq_true] at hi
    obtain ⟨h1, h2, h3⟩ := hi
    refine ⟨by unfold rest; rw [List.mem_filter]; exact ⟨h1, h2⟩, fun j hj => ?_⟩
    have hlt := List.mem_range.1 h1
    unfold aft at hj
    rw [Array.getElem?_eq_getElem hlt] at h3 hj
    simp only [Option.map_some, Option.getD_some] at h3
    simp only [aftOf] at hj
    obtain ⟨e, he, rfl⟩ := List.mem_map.1 hj
    rw [List.mem_filter] at he
    have := Array.all_eq_true'.1 h3 e (by simpa using he.1)
    rw [he.2] at this
    simpa using this
  induction fuel with
  | zero =>
    intro listed S σ a w hsz hcl hl hL hr
    have h0 : rest listed ops.size = [] := List.length_eq_zero_iff.1 hl
    refine ⟨?_, ?_⟩
    · rw [List.eq_nil_iff_forall_not_mem]
      intro i hi
      have := (hready listed i hi).1
      rw [h0] at this
      simp at this
    · rw [h0] at hL
      cases hL
      exact hq a w σ hr
  | succ fuel ih =>
    intro listed S σ a w hsz hcl hl hL hr
    refine ⟨fun h0 => ?_, fun i hi => ?_⟩
    · exfalso
      -- the first of the rest is ready
      cases hrs : rest listed ops.size with
      | nil => rw [hrs] at hl; simp at hl
      | cons i0 l =>
        have hmem : i0 ∈ rest listed ops.size := by rw [hrs]; simp
        have hi0 : i0 ∈ Region.ready .any ops listed := by
          unfold Region.ready
          unfold rest at hmem
          rw [List.mem_filter] at hmem ⊢
          refine ⟨hmem.1, ?_⟩
          rw [Bool.and_eq_true]
          refine ⟨hmem.2, ?_⟩
          have hlt := List.mem_range.1 hmem.1
          rw [Array.getElem?_eq_getElem hlt]
          simp only [Option.map_some, Option.getD_some]
          rw [Array.all_eq_true']
          intro e he
          cases hb : Region.binds .any e with
          | false => simp
          | true =>
            simp only [Bool.not_true, Bool.false_or]
            have hea : e.on ∈ aft ops i0 := by
              unfold aft
              rw [Array.getElem?_eq_getElem hlt]
              exact List.mem_map.2 ⟨e, List.mem_filter.2 ⟨by simpa using he, hb⟩, rfl⟩
            have hlt2 := regOk_lt hreg hlt hea
            have hnr : e.on ∉ rest listed ops.size := by
              intro hm
              have hpw : (rest listed ops.size).Pairwise (· < ·) := List.Pairwise.filter _ List.pairwise_lt_range
              rw [hrs, List.pairwise_cons] at hpw
              rw [hrs] at hm
              rcases List.mem_cons.1 hm with e1 | hm
              · omega
              · have := hpw.1 _ hm; omega
            unfold rest at hnr
            rw [List.mem_filter] at hnr
            have h5 : ¬ (!listed.getD e.on true) = true := fun h => hnr ⟨List.mem_range.2 (by omega), h⟩
            have h6 : listed.getD e.on true = true := by simpa using h5
            rw [Array.getD_eq_getD_getElem?] at h6 ⊢
            have : e.on < listed.size := by omega
            rw [Array.getElem?_eq_getElem this] at h6 ⊢
            exact h6
        rw [h0] at hi0
        simp at hi0
    · obtain ⟨hm, hdeps⟩ := hready listed i hi
      have hin : i < ops.size := by unfold rest at hm; exact List.mem_range.1 (List.mem_filter.1 hm).1
      have hpw : (rest listed ops.size).Pairwise (· < ·) := List.Pairwise.filter _ List.pairwise_lt_range
      obtain ⟨l1, l2, hsplit, hlt, hfil⟩ := split_at hpw hm
      rw [hsplit] at hL
      obtain ⟨S1, h1, h2, _⟩ := Lex.pull hreg htab hin l1 S Sf hL (fun j hj => ⟨hlt j hj, fun ha => by
        have tc : ∀ i', TC ops j i' → (∀ m ∈ aft ops i', listed.getD m false = true) → listed.getD j false = true := by
          intro i' h
          induction h with
          | one h => exact fun hm => hm _ h
          | step h h' ih => exact fun hm => ih (hcl _ (hm _ h))
        have h3 := tc i ha hdeps
        have h4 : j ∈ rest listed ops.size := by rw [hsplit]; exact List.mem_append_left _ hj
        unfold rest at h4
        have h5 := (List.mem_filter.1 h4).2
        rw [Array.getD_eq_getD_getElem?] at h3 h5
        have : j < listed.size := by have := hlt j hj; omega
        rw [Array.getElem?_eq_getElem this] at h3 h5
        simp only [Option.getD_some] at h3 h5
        rw [h3] at h5
        simp at h5⟩)
      have hrest : rest (listed.setIfInBounds i true) ops.size = l1 ++ l2 := by
        rw [← hfil]
        unfold rest
        rw [List.filter_filter]
        apply List.filter_congr
        intro j hj
        rw [Array.getD_eq_getD_getElem?, Array.getD_eq_getD_getElem?, Array.getElem?_setIfInBounds]
        by_cases e : i = j
        · subst e
          simp [hsz, hin]
        · rw [if_neg e]
          have : (j != i) = true := by simp; omega
          rw [this, Bool.true_and]
      refine h1 σ a w hr _ _ fun a' w' σ' hr' => ?_
      refine ih _ S1 σ' a' w' (by simpa using hsz) (fun i' hi' j hj => ?_) ?_ (by rw [hrest]; exact h2) hr'
      · have mono : ∀ x, listed.getD x false = true → (listed.setIfInBounds i true).getD x false = true := fun x hx => by
          rw [Array.getD_eq_getD_getElem?] at hx ⊢
          rw [Array.getElem?_setIfInBounds]
          split
          · split <;> simp_all
          · exact hx
        by_cases e : i' = i
        · subst e; exact mono j (hdeps j hj)
        · refine mono j (hcl i' ?_ j hj)
          rw [Array.getD_eq_getD_getElem?] at hi' ⊢
          rw [Array.getElem?_setIfInBounds, if_neg (fun h => e h.symm)] at hi'
          exact hi'
      rw [hrest]
      have : (rest listed ops.size).length = (l1 ++ l2).length + 1 := by rw [hsplit]; simp; omega
      omega
end
end Go.Av
