/- Steps that change a block of the call's own. -/
import Derived.Test.YtfhjipfkaemapaaGreatAvG
namespace Go.Av
open Go Go.RowKit
set_option linter.unusedVariables false
set_option linter.unusedSimpArgs false
def subC (s : Nat) (x : CV) : CV → CV
 | .h s' => if s' = s then x else .h s'
 | .hn s' => if s' = s then .any else .hn s'
 | .hv s' x => if s' = s then .any else .hv s' x
 | c => c
def subT (s : Nat) (x : CV) : TV → TV
 | .c c => .c (subC s x c)
 | .agg xs => .agg (xs.map (subC s x))
def subA (s : Nat) (x : CV) : AV → AV
 | .t y => .t (subT s x y)
 | .tup ys => .tup (ys.map (subT s x))
 | .ptr s' off => if s' = s then .any else .ptr s' off
 | .eptr s' z j q => if s' = s then .any else .eptr s' z j q
 | .fn g caps => if (caps.map (·.1)).contains s then .any else .fn g caps
 | .nptr s' j => if s' = s then .any else .nptr s' j
 | .nhd s' j => if s' = s then .any else .nhd s' j
 | .nelp s' j q => if s' = s then .any else .nelp s' j q
 | av => av
def subK (s : Nat) (x : CV) : Content → Content
 | .box t cs => .box t (cs.map (subC s x))
 | c => c
def FS.sub (S : FS) (s : Nat) (x : CV) (c : Option Content) : FS := ⟨fun t => subA s x (S.T t), upd (fun s' => (S.H s').map (subK s x)) s c⟩
section
variable {base : Nat} {σ σ' : Sig} {w w' : World} {s : Nat} {x : CV} {v0 : Value}
def SubOk (base : Nat) (σ σ' : Sig) (w' : World) (s : Nat) (x : CV) : Prop := (∀ s', s' ≠ s → σ' s' = σ s') ∧ ∀ v, σ s = some v → v.oneCell' = true → RepC base w' σ' x v
theorem sub_repC (he : Evo σ σ' w w') (hx : SubOk base σ σ' w' s x) {c : CV} {v : Value} (h : RepC base w σ c v) : RepC base w' σ' (subC s x c) v := by
 unfold subC
 split
 ·rename_i s'
  split
  ·rename_i e
   subst e
   exact hx.2 v h.1 h.2
  ·rename_i e
   exact ⟨(hx.1 _ e).trans h.1, h.2⟩
 ·rename_i s'
  split
  ·exact h.2
  ·rename_i e
   obtain ⟨us, h1⟩ := h.1
   exact ⟨⟨us, (hx.1 _ e).trans h1⟩, h.2⟩
 ·rename_i s' x'
  split
  ·exact h.2.2
  ·rename_i e
   exact ⟨(hx.1 _ e).trans h.1, h.2⟩
 ·rename_i hne hne2 hne3
  refine he.repC (fun s' e => ?_) h
  cases c with
  | h s2 => exact (hne s2 rfl).elim
  | hn s2 => exact (hne2 s2 rfl).elim
  | hv s2 x2 => exact (hne3 s2 x2 rfl).elim
  | _ => simp [CV.sites] at e
theorem sub_repCs (he : Evo σ σ' w w') (hx : SubOk base σ σ' w' s x) {cs : List CV} {vs : List Value} (h : RepCs base w σ cs vs) : RepCs base w' σ' (cs.map (subC s x)) vs := by
 refine ⟨by rw [List.length_map]; exact h.1, fun i c v hc hv => ?_⟩
 rw [List.getElem?_map] at hc
 obtain ⟨c', hc', rfl⟩ := Option.map_eq_some_iff.1 hc
 exact sub_repC he hx (h.2 i c' v hc' hv)
theorem sub_repT (he : Evo σ σ' w w') (hx : SubOk base σ σ' w' s x) {c : TV} {v : Value} (h : RepT base w σ c v) : RepT base w' σ' (subT s x c) v := by
 cases c with
 | c c => exact sub_repC he hx h
 | agg xs => obtain ⟨vs, rfl, h⟩ := h; exact ⟨vs, rfl, sub_repCs he hx h⟩
theorem sub_repA (he : Evo σ σ' w w') (hx : SubOk base σ σ' w' s x) {c : AV} {v : Value} (h : RepA base w σ c v) : RepA base w' σ' (subA s x c) v := by
 cases c with
 | any => trivial
 | t y => exact sub_repT he hx h
 | tup ys =>
   obtain ⟨vs, rfl, hl, h⟩ := h
   refine ⟨vs, rfl, by rw [List.length_map]; exact hl, fun i c v hc hv => ?_⟩
   rw [List.getElem?_map] at hc
   obtain ⟨c', hc', rfl⟩ := Option.map_eq_some_iff.1 hc
   exact sub_repT he hx (h i c' v hc' hv)
 | ptr s' off =>
   simp only [subA]
   split
   ·trivial
   ·rename_i e; obtain ⟨b, h1, h2⟩ := h; exact ⟨b, (hx.1 _ e).trans h1, h2⟩
 | eptr s' z j q =>
   simp only [subA]
   split
   ·trivial
   ·rename_i e; obtain ⟨b, n, c, h1, h2⟩ := h; exact ⟨b, n, c, (hx.1 _ e).trans h1, h2⟩
 | bptr fr e => obtain ⟨ad, h1, h2⟩ := h; exact ⟨ad, h1, he.repB h2⟩
 | fn g caps =>
   simp only [subA]
   split
   ·trivial
   ·rename_i e
    obtain ⟨ps, h1, h2, h3⟩ := h
    refine ⟨ps, h1, h2, fun i c u hc hu => ?_⟩
    obtain ⟨b, h4, h5⟩ := h3 i c u hc hu
    refine ⟨b, (hx.1 _ fun e' => e ?_).trans h4, h5⟩
    rw [List.contains_iff_mem]
    exact List.mem_map.2 ⟨c, List.mem_of_getElem? hc, e'⟩
 | bfn g es =>
   obtain ⟨ps, h1, h2, h3⟩ := h
   exact ⟨ps, h1, h2, fun i e u hu hv => by obtain ⟨ad, h4, h5⟩ := h3 i e u hu hv; exact ⟨ad, h4, he.repB h5⟩⟩
 | nptr s' j =>
   simp only [subA]
   split
   ·trivial
   ·rename_i e
    obtain ⟨b, n, c, us, h1, h2⟩ := h
    exact ⟨b, n, c, us, (hx.1 _ e).trans h1, h2⟩
 | nhd s' j =>
   simp only [subA]
   split
   ·trivial
   ·rename_i e
    obtain ⟨hd, us, h1, h2⟩ := h
    exact ⟨hd, us, (hx.1 _ e).trans h1, h2⟩
 | nelp s' j q =>
   simp only [subA]
   split
   ·trivial
   ·rename_i e
    obtain ⟨hd, us, b, n, c, h1, h2⟩ := h
    exact ⟨hd, us, b, n, c, (hx.1 _ e).trans h1, h2⟩
theorem sub_site (he : Evo σ σ' w w') (hx : SubOk base σ σ' w' s x) {v : Value} {c : Content} (hb : ∀ b, Own v b → w'.heap[b]? = w.heap[b]?) (h : SiteOk base w σ v c) : SiteOk base w' σ' v (subK s x c) := by
 cases c with
 | box t cs =>
   obtain ⟨b, vs, rfl, h1, h2, h3, h4⟩ := h
   exact ⟨b, vs, rfl, h1, (hb b (own_of rfl)).trans h2, h3, sub_repCs he hx h4⟩
 | row e z n g fr => exact he.site hb (fun t cs e => by cases e) h
 | nest e ei n m g => exact he.site hb (fun t cs e => by cases e) h
 | iter s pos => exact he.site hb (fun t cs e => by cases e) h
 | set P kt bt n l => exact he.site hb (fun t cs e => by cases e) h
end
theorem Rel.sub {w0 : Base} {N : Nat} {S : FS} {σ : Sig} {a : Act} {w w' : World} (h : Rel w0 N S σ a w) {s : Nat} {v : Value} {x : CV} {c : Option Content} {hd : Option Value} (hs : σ s = some v)
  (hbel : Below w0.base w w') (hkeep : ∀ b, b < w.heap.size → ¬ Own v b → w'.heap[b]? = w.heap[b]?)
  (hhd : ∀ u, hd = some u → ∀ b, Own u b → Own v b ∨ w.heap.size ≤ b)
  (hx : v.oneCell' = true → Evo σ (upd σ s hd) w w' → RepC w0.base w' (upd σ s hd) x v) (hc : ∀ k, c = some k → ∃ u, hd = some u ∧ (Evo σ (upd σ s hd) w w' → SiteOk w0.base w' (upd σ s hd) u k)) (hcn : c = none → hd = none) :
  Rel w0 N (S.sub s x c) (upd σ s hd) a w' := by
 have hev : Evo σ (upd σ s hd) w w' := by
  refine ⟨hbel.size, fun b hb hl => hkeep b hb (fun e => hl ⟨s, v, hs, e⟩), fun b hb ⟨s', u, hu, hub⟩ => ?_⟩
  simp only [upd] at hu
  split at hu
  ·rcases hhd u hu b hub with h1 | h1
   ·exact ⟨s, v, hs, h1⟩
   ·omega
  ·exact ⟨s', u, hu, hub⟩
 have hsub : SubOk w0.base σ (upd σ s hd) w' s x := ⟨fun s' hne => by simp only [upd]; rw [if_neg hne], fun u hu h1 => by
  rw [hs] at hu
  cases hu
  exact hx h1 hev⟩
 refine ⟨h.below.trans hbel, h.size, h.defers, fun t => sub_repA hev hsub (h.tmps t), fun s' k hk => ?_, fun s' hk => ?_, fun s1 s2 v1 v2 b h1 h2 hb1 hb2 => ?_, hev.prot h.prot⟩
 ·simp only [FS.sub, upd] at hk
  by_cases e : s' = s
  ·subst e
   rw [if_pos rfl] at hk
   obtain ⟨u, hu, hu2⟩ := hc k hk
   exact ⟨u, by simp [upd, hu], hu2 hev⟩
  ·rw [if_neg e] at hk
   obtain ⟨k', hk', rfl⟩ := Option.map_eq_some_iff.1 hk
   obtain ⟨u, hu, hu2⟩ := h.sites s' k' hk'
   refine ⟨u, by simp only [upd]; rw [if_neg e]; exact hu, sub_site hev hsub (fun b hb => hkeep b (hu2.block hb).2 (fun e' => e ?_)) hu2⟩
   exact h.inj s' s u v b hu hs hb e'
 ·simp only [FS.sub, upd] at hk
  by_cases e : s' = s
  ·subst e
   rw [if_pos rfl] at hk
   simp [upd, hcn hk]
  ·rw [if_neg e] at hk
   simp only [upd]
   rw [if_neg e]
   exact h.dom s' (by simpa using hk)
 ·have far : ∀ (s' : Nat) (u u' : Value), s' ≠ s → σ s' = some u' → hd = some u → Own u b → Own u' b → False := fun s' u u' hne hu' hu hb hb' => by
   rcases hhd u hu b hb with h3 | h3
   ·exact hne (h.inj s' s u' v b hu' hs hb' h3)
   ·have := (h.live ⟨s', u', hu', hb'⟩).2
    omega
  simp only [upd] at h1 h2
  by_cases e1 : s1 = s
  ·by_cases e2 : s2 = s
   ·rw [e1, e2]
   ·rw [if_pos e1] at h1
    rw [if_neg e2] at h2
    exact (far s2 v1 v2 e2 h2 h1 hb1 hb2).elim
  ·rw [if_neg e1] at h1
   by_cases e2 : s2 = s
   ·rw [if_pos e2] at h2
    exact (far s1 v2 v1 e1 h1 h2 hb2 hb1).elim
   ·rw [if_neg e2] at h2
    exact h.inj s1 s2 v1 v2 b h1 h2 hb1 hb2
theorem Rel.write {w0 : Base} {N : Nat} {S : FS} {σ : Sig} {a : Act} {w w' : World} (h : Rel w0 N S σ a w) {s : Nat} {v : Value} {c : Content} (hs : σ s = some v)
  (hbel : Below w0.base w w') (hkeep : ∀ b, b < w.heap.size → ¬ Own v b → w'.heap[b]? = w.heap[b]?)
  (hc : Evo σ σ w w' → SiteOk w0.base w' σ v c) : Rel w0 N ⟨S.T, upd S.H s (some c)⟩ σ a w' := by
 have hev : Evo σ σ w w' := ⟨hbel.size, fun b hb hl => hkeep b hb (fun e => hl ⟨s, v, hs, e⟩), fun b hb hl => hl⟩
 refine ⟨h.below.trans hbel, h.size, h.defers, fun t => hev.repA (fun _ _ => rfl) (h.tmps t), fun s' k hk => ?_, fun s' hk => ?_, h.inj, hev.prot h.prot⟩
 ·simp only [upd] at hk
  by_cases e : s' = s
  ·subst e
   rw [if_pos rfl] at hk
   cases hk
   exact ⟨v, hs, hc hev⟩
  ·rw [if_neg e] at hk
   obtain ⟨u, hu, hu2⟩ := h.sites s' k hk
   exact ⟨u, hu, hev.site (fun b hb => hkeep b (hu2.block hb).2 (fun e' => e (h.inj s' s u v b hu hs hb e'))) (fun _ _ _ _ _ => rfl) hu2⟩
 ·simp only [upd] at hk
  by_cases e : s' = s
  ·rw [if_pos e] at hk; cases hk
  ·rw [if_neg e] at hk; exact h.dom s' hk
def FS.drop (S : FS) (s : Nat) : FS := match S.H s with
 | some _ => S.sub s .any none
 | none => S
theorem Rel.drop {w0 : Base} {N : Nat} {S : FS} {σ : Sig} {a : Act} {w : World} (h : Rel w0 N S σ a w) (s : Nat) : ∃ σ', Rel w0 N (S.drop s) σ' a w ∧ σ' s = none ∧ (∀ s', s' ≠ s → σ' s' = σ s') := by
 unfold FS.drop
 split
 ·rename_i c hc
  obtain ⟨v, hv, ho⟩ := h.sites s c hc
  refine ⟨upd σ s none, h.sub hv (Below.refl _ _) (fun _ _ _ => rfl) (fun u hu => by cases hu) (fun h1 _ => h1) (fun k hk => by cases hk) (fun _ => rfl), by simp [upd], fun s' hne => by simp only [upd]; rw [if_neg hne]⟩
 ·rename_i hn
  exact ⟨σ, h, h.dom s hn, fun _ _ => rfl⟩
def FS.freeze (S : FS) (s : Nat) : Option FS := match S.H s with
 | some (.row e z n g fr) => some (S.sub s (.p fr (.row z n g)) none)
 | _ => none
theorem Rel.freeze {w0 : Base} {N : Nat} {S S' : FS} {σ : Sig} {a : Act} {w : World} (h : Rel w0 N S σ a w) {s : Nat} (hf : S.freeze s = some S') : ∃ σ', Rel w0 N S' σ' a w := by
 unfold FS.freeze at hf
 split at hf
 ·rename_i e z n g fr hH
  cases hf
  obtain ⟨v, hv, ho⟩ := h.sites s _ hH
  refine ⟨upd σ s none, h.sub hv (Below.refl _ _) (fun _ _ _ => rfl) (fun u hu => by cases hu) (fun _ hev => ?_) (fun k hk => by cases hk) (fun _ => rfl)⟩
  obtain ⟨xs, h1, h2, h3, h4⟩ := ho
  show Rep w (K w0.base w (upd σ s none) fr) (.row z n g) v
  rcases Nat.eq_zero_or_pos n with rfl | hn
  ·rcases h1.2 with ⟨rfl, _⟩ | ⟨g', cap, cur, rfl, _⟩
   ·exact .none _ _ _ _ (fun _ => rfl)
   ·exact .none _ _ _ _ (fun e => by cases e)
  ·obtain ⟨b, cap, rfl, hb, hlt⟩ := h1.form hn
   have hcap : n ≤ cap := by
    rcases h1.2 with ⟨e, _⟩ | ⟨g', cap', cur, e, _, _, hle, _⟩
    ·cases e
    ·simp only [Value.slice.injEq] at e; omega
   have hlen : ∀ j q, j < n → q < z → j * z + q < n * z := fun j q hj hq => by
    have : j * z + z ≤ n * z := by rw [← Nat.succ_mul]; exact Nat.mul_le_mul_right _ hj
    omega
   refine .row z n g ⟨b, 0, none⟩ cap (fun j q => xs.getD (j * z + q) undef) hn hcap ⟨hlt, fun ⟨s', u, hu, hub⟩ => ?_, fun _ => hb⟩ h3 (fun j q hj hq => ?_) (fun j q y hj hy => ?_)
   ·simp only [upd] at hu
    split at hu
    ·cases hu
    ·rename_i hne; exact hne (h.inj s' s u _ b hu hv hub (own_of rfl))
   ·rw [Addr.add_lit, Nat.zero_add, h1.cellAt _ (hlen j q hj hq), List.getD_eq_getElem?_getD, List.getElem?_eq_getElem (by rw [h1.1]; exact hlen j q hj hq)]
    rfl
   ·obtain ⟨u, hu, hr⟩ := h4 j q y hj hy
    rw [List.getD_eq_getElem?_getD, hu]
    exact hev.rep hr
 ·cases hf
def FS.nilrow (S : FS) (t s e z : Nat) : Option FS := match S.T t, S.H s with
 | .t (.c (.p _ (.sc (.slice none 0 0)))), none => some ⟨upd S.T t (.t (.c (.h s))), upd S.H s (some (.row e z 0 (fun _ => []) true))⟩
 | _, _ => none
theorem Rel.nilrow {w0 : Base} {N : Nat} {S S' : FS} {σ : Sig} {a : Act} {w : World} (h : Rel w0 N S σ a w) {t s e z : Nat} (hf : S.nilrow t s e z = some S') : ∃ σ', Rel w0 N S' σ' a w := by
 unfold FS.nilrow at hf
 split at hf
 ·rename_i fr ht hs
  cases hf
  have hd := h.dom s hs
  have hev : Evo σ (upd σ s (some (.slice none 0 0))) w w := by
   refine ⟨Nat.le_refl _, fun _ _ _ => rfl, fun b hb ⟨s', u, hu, hub⟩ => ?_⟩
   simp only [upd] at hu
   split at hu
   ·cases hu; exact (own_nil hub).elim
   ·exact ⟨s', u, hu, hub⟩
  have same : ∀ s', σ s' ≠ none → upd σ s (some (.slice none 0 0)) s' = σ s' := upd_same hd
  refine ⟨upd σ s (some (.slice none 0 0)), h.below, h.size, h.defers, fun t' => ?_, fun s' k hk => ?_, fun s' hk => ?_, fun s1 s2 v1 v2 b h1 h2 hb1 hb2 => ?_, hev.prot h.prot⟩
  ·simp only [upd]
   split
   ·rename_i e
    subst e
    have := h.tmps t'
    rw [ht] at this
    replace this : Rep w _ (.sc (.slice none 0 0)) (a.tmps.getD t' undef) := this
    generalize a.tmps.getD t' undef = u at this
    cases this with
    | sc => exact ⟨by simp [upd], rfl⟩
   ·exact hev.repA (fun s' hs' => same s' ((h.tmps t').known s' hs')) (h.tmps t')
  ·simp only [upd] at hk
   by_cases e' : s' = s
   ·subst e'
    rw [if_pos rfl] at hk
    cases hk
    exact ⟨_, by simp [upd], [], ⟨by simp, .inl ⟨rfl, rfl⟩⟩, fun u hu => by simp at hu, fun j hj => by omega, fun j q y hj => by omega⟩
   ·rw [if_neg e'] at hk
    obtain ⟨u, hu, hu2⟩ := h.sites s' k hk
    refine ⟨u, by simp only [upd]; rw [if_neg e']; exact hu, hev.site (fun _ _ => rfl) (fun t cs ek s2 hs2 => same s2 ?_) hu2⟩
    subst ek
    obtain ⟨b, vs, _, _, _, _, hcs⟩ := hu2
    exact RepT.known (c := .agg cs) ⟨vs.toList, rfl, hcs⟩ s2 hs2
  ·simp only [upd] at hk
   by_cases e' : s' = s
   ·rw [if_pos e'] at hk; cases hk
   ·rw [if_neg e'] at hk; simp only [upd]; rw [if_neg e']; exact h.dom s' hk
  ·simp only [upd] at h1 h2
   split at h1
   ·cases h1; exact (own_nil hb1).elim
   ·split at h2
    ·cases h2; exact (own_nil hb2).elim
    ·exact h.inj s1 s2 v1 v2 b h1 h2 hb1 hb2
 ·cases hf
def SC (n : Nat) (g : Nat → List V) : Prop := ∀ j, j < n → ∀ x ∈ g j, isSc x = true
def nilC : CV → Bool
 | .p _ (.sc (.slice none 0 0)) => true
 | _ => false
def FS.nilT (S : FS) (t i s e z : Nat) : Option FS := match S.T t, S.H s with
 | .t (.agg cs), none => match cs[i]? with
   | some c => if nilC c then some ⟨upd S.T t (.t (.agg (cs.set i (.h s)))), upd S.H s (some (.row e z 0 (fun _ => []) true))⟩ else none
   | none => none
 | _, _ => none
def FS.nilB (S : FS) (b i s e z : Nat) : Option FS := match S.H b, S.H s with
 | some (.box t cs), none => match cs[i]? with
   | some c => if nilC c then some ⟨S.T, upd (upd S.H b (some (.box t (cs.set i (.h s))))) s (some (.row e z 0 (fun _ => []) true))⟩ else none
   | none => none
 | _, _ => none
section
variable {w0 : Base} {N : Nat} {S : FS} {σ : Sig} {a : Act} {w : World} {s e z : Nat}
def nilσ (σ : Sig) (s : Nat) : Sig := upd σ s (some (.slice none 0 0))
theorem nil_evo : Evo σ (nilσ σ s) w w := by
 refine ⟨Nat.le_refl _, fun _ _ _ => rfl, fun b hb ⟨s', u, hu, hub⟩ => ?_⟩
 simp only [nilσ, upd] at hu
 split at hu
 ·cases hu; exact (own_nil hub).elim
 ·exact ⟨s', u, hu, hub⟩
theorem nilC_rep {base : Nat} {c : CV} {v : Value} (h : nilC c = true) (hr : RepC base w σ c v) : v = .slice none 0 0 := by
 unfold nilC at h
 split at h
 ·cases hr with
  | sc => rfl
 ·cases h
theorem nil_rel (h : Rel w0 N S σ a w) (hs : S.H s = none) : Rel w0 N ⟨S.T, upd S.H s (some (.row e z 0 (fun _ => []) true))⟩ (nilσ σ s) a w := by
 have hd := h.dom s hs
 have same : ∀ s', σ s' ≠ none → nilσ σ s s' = σ s' := upd_same hd
 refine ⟨h.below, h.size, h.defers, fun t' => nil_evo.repA (fun s' hs' => same s' ((h.tmps t').known s' hs')) (h.tmps t'), fun s' k hk => ?_, fun s' hk => ?_, fun s1 s2 v1 v2 b h1 h2 hb1 hb2 => ?_, nil_evo.prot h.prot⟩
 ·simp only [upd] at hk
  by_cases e' : s' = s
  ·subst e'
   rw [if_pos rfl] at hk
   cases hk
   exact ⟨_, by simp [nilσ, upd], [], ⟨by simp, .inl ⟨rfl, rfl⟩⟩, fun u hu => by simp at hu, fun j hj => by omega, fun j q y hj => by omega⟩
  ·rw [if_neg e'] at hk
   obtain ⟨u, hu, hu2⟩ := h.sites s' k hk
   refine ⟨u, by simp only [nilσ, upd]; rw [if_neg e']; exact hu, nil_evo.site (fun _ _ => rfl) (fun t cs ek s2 hs2 => same s2 ?_) hu2⟩
   subst ek
   obtain ⟨b, vs, _, _, _, _, hcs⟩ := hu2
   exact RepT.known (c := .agg cs) ⟨vs.toList, rfl, hcs⟩ s2 hs2
 ·simp only [upd] at hk
  by_cases e' : s' = s
  ·rw [if_pos e'] at hk; cases hk
  ·rw [if_neg e'] at hk; simp only [nilσ, upd]; rw [if_neg e']; exact h.dom s' hk
 ·simp only [nilσ, upd] at h1 h2
  split at h1
  ·cases h1; exact (own_nil hb1).elim
  ·split at h2
   ·cases h2; exact (own_nil hb2).elim
   ·exact h.inj s1 s2 v1 v2 b h1 h2 hb1 hb2
theorem nil_cells {base i : Nat} {cs : List CV} {vs : List Value} {c : CV} (hc : cs[i]? = some c) (hn : nilC c = true) (hr : RepCs base w (nilσ σ s) cs vs) : RepCs base w (nilσ σ s) (cs.set i (.h s)) vs := by
 refine ⟨by rw [List.length_set]; exact hr.1, fun j c' v hj hv => ?_⟩
 rw [List.getElem?_set] at hj
 split at hj
 ·rename_i e
  subst e
  split at hj
  ·cases hj
   rw [nilC_rep hn (hr.2 i c v hc hv)]
   exact ⟨by simp [nilσ, upd], rfl⟩
  ·cases hj
 ·exact hr.2 j c' v hj hv
theorem Rel.nilT {S' : FS} {t i : Nat} (h : Rel w0 N S σ a w) (hf : S.nilT t i s e z = some S') : ∃ σ', Rel w0 N S' σ' a w := by
 unfold FS.nilT at hf
 split at hf
 ·rename_i cs ht hs
  split at hf
  ·rename_i c hc
   split at hf
   ·rename_i hn
    cases hf
    have h1 := nil_rel (e := e) (z := z) h hs
    refine ⟨nilσ σ s, h1.below, h1.size, h1.defers, fun t' => ?_, h1.sites, h1.dom, h1.inj, h1.prot⟩
    simp only [upd]
    split
    ·rename_i e'
     subst e'
     have := h1.tmps t'
     simp only [ht] at this
     obtain ⟨vs, hvs, hr⟩ := this
     exact ⟨vs, hvs, nil_cells hc hn hr⟩
    ·exact h1.tmps t'
   ·cases hf
  ·cases hf
 ·cases hf
theorem Rel.nilB {S' : FS} {b i : Nat} (h : Rel w0 N S σ a w) (hf : S.nilB b i s e z = some S') : ∃ σ', Rel w0 N S' σ' a w := by
 unfold FS.nilB at hf
 split at hf
 ·rename_i t cs hb hs
  split at hf
  ·rename_i c hc
   split at hf
   ·rename_i hn
    cases hf
    have hne : b ≠ s := fun e' => by rw [e', hs] at hb; cases hb
    have h1 := nil_rel (e := e) (z := z) h hs
    obtain ⟨v, hv, hsite⟩ := h1.sites b (.box t cs) (by simp only [upd]; rw [if_neg hne]; exact hb)
    have h2 := h1.write (c := .box t (cs.set i (.h s))) hv (Below.refl _ _) (fun _ _ _ => rfl) (fun _ => by
     obtain ⟨b', vs, rfl, k1, k2, k3, k4⟩ := hsite
     exact ⟨b', vs, rfl, k1, k2, k3, nil_cells hc hn k4⟩)
    refine ⟨nilσ σ s, ?_⟩
    have e2 : upd (upd S.H s (some (Content.row e z 0 (fun _ => []) true))) b (some (Content.box t (cs.set i (.h s)))) = upd (upd S.H b (some (.box t (cs.set i (.h s))))) s (some (.row e z 0 (fun _ => []) true)) := by
     funext x
     simp only [upd]
     by_cases e1 : x = b
     ·subst e1; simp [hne]
     ·simp [e1]
    rw [← e2]
    exact h2
   ·cases hf
  ·cases hf
 ·cases hf
end
end Go.Av