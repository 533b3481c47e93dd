/- Rows of rows: operations on them. -/
import Derived.Test.YtfhjipfkaemapaaGreatAvKq
namespace Go.Av
open Go Go.RowKit
set_option linter.unusedVariables false
set_option linter.unusedSimpArgs false
variable {P : Program}
def mvC (q s : Nat) (b : Bool) : CV → CV
 | .h s' => if s' = q then .any else if s' = s then (if b = true then .hn s else .any) else .h s'
 | .hn s' => if s' = q then .any else if s' = s then (if b = true then .hn s else .any) else .hn s'
 | .hv s' x => if s' = q ∨ s' = s then .any else .hv s' x
 | c => c
def mvT (q s : Nat) (b : Bool) : TV → TV
 | .c c => .c (mvC q s b c)
 | .agg xs => .agg (xs.map (mvC q s b))
def mvA (q s : Nat) (b : Bool) : AV → AV
 | .t y => .t (mvT q s b y)
 | .tup ys => .tup (ys.map (mvT q s b))
 | .ptr s' off => if s' = q ∨ s' = s then .any else .ptr s' off
 | .eptr s' z j k => if s' = q ∨ s' = s then .any else .eptr s' z j k
 | .nptr s' j => if s' = q ∨ (s' = s ∧ b = false) then .any else .nptr s' j
 | .nhd s' j => if s' = q ∨ s' = s then .any else .nhd s' j
 | .nelp s' j k => if s' = q ∨ s' = s then .any else .nelp s' j k
 | .fn g caps => if (caps.map (·.1)).contains q ∨ (caps.map (·.1)).contains s then .any else .fn g caps
 | av => av
def mvK (q s : Nat) (b : Bool) : Content → Content
 | .box t cs => .box t (cs.map (mvC q s b))
 | c => c
def FS.mv (S : FS) (q s : Nat) (b : Bool) (c : Content) : FS := ⟨fun t => mvA q s b (S.T t), upd (upd (fun s' => (S.H s').map (mvK q s b)) q none) s (some c)⟩
def Hdr (v0 u1 : Value) : Prop := ∃ (hd : Value) (us' : List Value), u1 = .tuple (hd :: us').toArray ∧ ((v0 = hd ∧ hd.oneCell' = true) ∨ ∃ us : List Value, v0 = .tuple (hd :: us).toArray)
section
variable {base : Nat} {σ : Sig} {w w' : World} {q s : Nat} {b : Bool} {v0 u1 : Value}
def mvσ (σ : Sig) (q s : Nat) (u : Value) : Sig := upd (upd σ q none) s (some u)
theorem mvσ_ne {u : Value} {s' : Nat} (h1 : s' ≠ q) (h2 : s' ≠ s) : mvσ σ q s u s' = σ s' := by
 unfold mvσ upd
 rw [if_neg h2, if_neg h1]
theorem mvσ_s {u : Value} : mvσ σ q s u s = some u := by simp [mvσ, upd]
theorem mv_repC (he : Evo σ (mvσ σ q s u1) w w') (hs : σ s = some v0) (hb : b = true → Hdr v0 u1) {c : CV} {v : Value} (h : RepC base w σ c v) : RepC base w' (mvσ σ q s u1) (mvC q s b c) v := by
 unfold mvC
 split
 ·rename_i s'
  split
  ·exact h.2
  ·rename_i e
   split
   ·rename_i e2
    subst e2
    split
    ·rename_i hbt
     obtain ⟨hd, us', rfl, ⟨rfl, h1⟩ | ⟨us, rfl⟩⟩ := hb hbt
     ·have h2 := h.1
      rw [hs] at h2
      cases h2
      exact ⟨⟨us', mvσ_s⟩, h1⟩
     ·have h2 := h.1
      rw [hs] at h2
      cases h2
      cases h.2
    ·exact h.2
   ·rename_i e2
    exact ⟨(mvσ_ne e e2).trans h.1, h.2⟩
 ·rename_i s'
  split
  ·exact h.2
  ·rename_i e
   obtain ⟨vs, h1⟩ := h.1
   split
   ·rename_i e2
    subst e2
    split
    ·rename_i hbt
     rw [hs] at h1
     cases h1
     obtain ⟨hd, us', rfl, ⟨h2, h3⟩ | ⟨us, h2⟩⟩ := hb hbt
     ·rw [← h2] at h3; cases h3
     ·have h2 : v :: vs = hd :: us := by simpa using h2
      obtain ⟨rfl, rfl⟩ := List.cons.inj h2
      exact ⟨⟨us', mvσ_s⟩, h.2⟩
    ·exact h.2
   ·rename_i e2
    exact ⟨⟨vs, (mvσ_ne e e2).trans h1⟩, h.2⟩
 ·rename_i s' x
  split
  ·exact h.2.2
  ·rename_i e
   exact ⟨(mvσ_ne (fun h => e (.inl h)) (fun h => e (.inr h))).trans h.1, h.2⟩
 ·rename_i hne hne2 hne3
  refine he.repC (fun s' e => ?_) h
  cases c with
  | h s2 => exact (hne s2 rfl).elim
  | hn s2 => exact (hne2 s2 rfl).elim
  | hv s2 x2 => exact (hne3 s2 x2 rfl).elim
  | _ => simp [CV.sites] at e
theorem mv_repCs (he : Evo σ (mvσ σ q s u1) w w') (hs : σ s = some v0) (hb : b = true → Hdr v0 u1) {cs : List CV} {vs : List Value} (h : RepCs base w σ cs vs) : RepCs base w' (mvσ σ q s u1) (cs.map (mvC q s b)) vs := by
 refine ⟨by rw [List.length_map]; exact h.1, fun i c v hc hv => ?_⟩
 rw [List.getElem?_map] at hc
 obtain ⟨c', hc', rfl⟩ := Option.map_eq_some_iff.1 hc
 exact mv_repC he hs hb (h.2 i c' v hc' hv)
theorem mv_repT (he : Evo σ (mvσ σ q s u1) w w') (hs : σ s = some v0) (hb : b = true → Hdr v0 u1) {c : TV} {v : Value} (h : RepT base w σ c v) : RepT base w' (mvσ σ q s u1) (mvT q s b c) v := by
 cases c with
 | c c => exact mv_repC he hs hb h
 | agg xs => obtain ⟨vs, rfl, h⟩ := h; exact ⟨vs, rfl, mv_repCs he hs hb h⟩
theorem mv_repA (he : Evo σ (mvσ σ q s u1) w w') (hs : σ s = some v0) (hb : b = true → Hdr v0 u1) {c : AV} {v : Value} (h : RepA base w σ c v) : RepA base w' (mvσ σ q s u1) (mvA q s b c) v := by
 cases c with
 | any => trivial
 | t y => exact mv_repT he hs hb h
 | tup ys =>
   obtain ⟨vs, rfl, hl, h⟩ := h
   refine ⟨vs, rfl, by rw [List.length_map]; exact hl, fun i c v hc hv => ?_⟩
   rw [List.getElem?_map] at hc
   obtain ⟨c', hc', rfl⟩ := Option.map_eq_some_iff.1 hc
   exact mv_repT he hs hb (h i c' v hc' hv)
 | ptr s' off =>
   simp only [mvA]
   split
   ·trivial
   ·rename_i e; obtain ⟨b, h1, h2⟩ := h; exact ⟨b, (mvσ_ne (fun h => e (.inl h)) (fun h => e (.inr h))).trans h1, h2⟩
 | eptr s' z j k =>
   simp only [mvA]
   split
   ·trivial
   ·rename_i e; obtain ⟨b, n, c, h1, h2⟩ := h; exact ⟨b, n, c, (mvσ_ne (fun h => e (.inl h)) (fun h => e (.inr h))).trans h1, h2⟩
 | bptr fr e => obtain ⟨ad, h1, h2⟩ := h; exact ⟨ad, h1, he.repB h2⟩
 | nptr s' j =>
   simp only [mvA]
   split
   ·trivial
   ·rename_i e
    obtain ⟨b', n, c, vs, h1, h2⟩ := h
    by_cases e2 : s' = s
    ·subst e2
     have hbt : b = true := by
      cases b with
      | true => rfl
      | false => exact absurd (.inr ⟨rfl, rfl⟩) e
     rw [hs] at h1
     cases h1
     obtain ⟨hd, us', rfl, ⟨h3, h4⟩ | ⟨us, h3⟩⟩ := hb hbt
     ·rw [← h3] at h4; cases h4
     ·have h3 : .slice (some ⟨b', 0, none⟩) n c :: vs = hd :: us := by simpa using h3
      obtain ⟨rfl, rfl⟩ := List.cons.inj h3
      exact ⟨b', n, c, us', mvσ_s, h2⟩
    ·exact ⟨b', n, c, vs, (mvσ_ne (fun h => e (.inl h)) e2).trans h1, h2⟩
 | nhd s' j =>
   simp only [mvA]
   split
   ·trivial
   ·rename_i e; obtain ⟨hd, us, h1, h2⟩ := h; exact ⟨hd, us, (mvσ_ne (fun h => e (.inl h)) (fun h => e (.inr h))).trans h1, h2⟩
 | nelp s' j k =>
   simp only [mvA]
   split
   ·trivial
   ·rename_i e; obtain ⟨hd, us, b, n, c, h1, h2⟩ := h; exact ⟨hd, us, b, n, c, (mvσ_ne (fun h => e (.inl h)) (fun h => e (.inr h))).trans h1, h2⟩
 | fn g caps =>
   simp only [mvA]
   split
   ·trivial
   ·rename_i e
    obtain ⟨ps, h1, h2, h3⟩ := h
    refine ⟨ps, h1, h2, fun i c u hc hu => ?_⟩
    obtain ⟨b, h4, h5⟩ := h3 i c u hc hu
    refine ⟨b, (mvσ_ne (fun e' => e (.inl ?_)) (fun e' => e (.inr ?_))).trans h4, h5⟩
    ·rw [List.contains_iff_mem]
     exact List.mem_map.2 ⟨c, List.mem_of_getElem? hc, e'⟩
    ·rw [List.contains_iff_mem]
     exact List.mem_map.2 ⟨c, List.mem_of_getElem? hc, e'⟩
 | bfn g es =>
   obtain ⟨ps, h1, h2, h3⟩ := h
   exact ⟨ps, h1, h2, fun i e u hu hv => by obtain ⟨ad, h4, h5⟩ := h3 i e u hu hv; exact ⟨ad, h4, he.repB h5⟩⟩
theorem mv_site (he : Evo σ (mvσ σ q s u1) w w') (hs : σ s = some v0) (hbt : b = true → Hdr v0 u1) {v : Value} {c : Content} (hb : ∀ b, Own v b → w'.heap[b]? = w.heap[b]?) (h : SiteOk base w σ v c) : SiteOk base w' (mvσ σ q s u1) v (mvK q s b c) := by
 cases c with
 | box t cs =>
   obtain ⟨b, vs, rfl, h1, h2, h3, h4⟩ := h
   exact ⟨b, vs, rfl, h1, (hb b (own_of rfl)).trans h2, h3, mv_repCs he hs hbt h4⟩
 | row e z n g fr => exact he.site hb (fun t cs e => by cases e) h
 | nest e ei n m g => exact he.site hb (fun t cs e => by cases e) h
 | iter s pos => exact he.site hb (fun t cs e => by cases e) h
 | set P kt bt n l => exact he.site hb (fun t cs e => by cases e) h
end
theorem Rel.mv {w0 : Base} {N : Nat} {S : FS} {σ : Sig} {a : Act} {w w' : World} (h : Rel w0 N S σ a w) {q s : Nat} {b : Bool} {vq v0 u1 : Value} {c : Content} (hne : q ≠ s) (hq : σ q = some vq) (hs : σ s = some v0) (hbt : b = true → Hdr v0 u1)
  (hbel : Below w0.base w w') (hkeep : ∀ b, b < w.heap.size → ¬ Own v0 b → ¬ Own vq b → w'.heap[b]? = w.heap[b]?)
  (hhd : ∀ b, Own u1 b → (Own v0 b ∨ Own vq b) ∨ w.heap.size ≤ b)
  (hc : SiteOk w0.base w' (mvσ σ q s u1) u1 c) :
  Rel w0 N (S.mv q s b c) (mvσ σ q s u1) a w' := by
 have old : ∀ s' u b, mvσ σ q s u1 s' = some u → Own u b → (∃ s2 u2, σ s2 = some u2 ∧ Own u2 b ∧ (s' = s ∧ (s2 = s ∨ s2 = q) ∨ s' ≠ s ∧ s' ≠ q ∧ s2 = s')) ∨ (s' = s ∧ w.heap.size ≤ b) := fun s' u b hu hb => by
  by_cases e : s' = s
  ·subst e
   rw [mvσ_s] at hu
   cases hu
   rcases hhd b hb with (h1 | h1) | h1
   ·exact .inl ⟨s', _, hs, h1, .inl ⟨rfl, .inl rfl⟩⟩
   ·exact .inl ⟨q, _, hq, h1, .inl ⟨rfl, .inr rfl⟩⟩
   ·exact .inr ⟨rfl, h1⟩
  ·by_cases e2 : s' = q
   ·subst e2
    unfold mvσ upd at hu
    rw [if_neg e, if_pos rfl] at hu
    cases hu
   ·rw [mvσ_ne e2 e] at hu
    exact .inl ⟨s', u, hu, hb, .inr ⟨e, e2, rfl⟩⟩
 have hev : Evo σ (mvσ σ q s u1) w w' := by
  refine ⟨hbel.size, fun b hb hl => hkeep b hb (fun e => hl ⟨s, _, hs, e⟩) (fun e => hl ⟨q, _, hq, e⟩), fun b hb ⟨s', u, hu, hub⟩ => ?_⟩
  rcases old s' u b hu hub with ⟨s2, u2, h1, h2, _⟩ | ⟨_, h1⟩
  ·exact ⟨s2, u2, h1, h2⟩
  ·omega
 have lt : ∀ s' u b, σ s' = some u → Own u b → b < w.heap.size := fun s' u b hu hb => (h.live ⟨s', u, hu, hb⟩).2
 refine ⟨h.below.trans hbel, h.size, h.defers, fun t => mv_repA hev hs hbt (h.tmps t), fun s' k hk => ?_, fun s' hk => ?_, fun s1 s2 v1 v2 b h1 h2 hb1 hb2 => ?_, hev.prot h.prot⟩
 ·simp only [FS.mv, upd] at hk
  by_cases e : s' = s
  ·subst e
   rw [if_pos rfl] at hk
   cases hk
   exact ⟨_, mvσ_s, hc⟩
  ·rw [if_neg e] at hk
   by_cases e2 : s' = q
   ·rw [if_pos e2] at hk; cases hk
   ·rw [if_neg e2] at hk
    obtain ⟨k', hk', rfl⟩ := Option.map_eq_some_iff.1 hk
    obtain ⟨u, hu, hu2⟩ := h.sites s' k' hk'
    refine ⟨u, (mvσ_ne e2 e).trans hu, mv_site hev hs hbt (fun b hb => hkeep b (hu2.block hb).2 (fun e' => e ?_) (fun e' => e2 ?_)) hu2⟩
    ·exact h.inj s' s u _ b hu hs hb e'
    ·exact h.inj s' q u _ b hu hq hb e'
 ·simp only [FS.mv, upd] at hk
  by_cases e : s' = s
  ·rw [if_pos e] at hk; cases hk
  ·rw [if_neg e] at hk
   by_cases e2 : s' = q
   ·subst e2
    unfold mvσ upd
    rw [if_neg e, if_pos rfl]
   ·rw [if_neg e2] at hk
    rw [mvσ_ne e2 e]
    exact h.dom s' (by simpa using hk)
 ·rcases old s1 v1 b h1 hb1 with ⟨t1, u1', k1, k2, k3⟩ | ⟨k1, k2⟩
  ·rcases old s2 v2 b h2 hb2 with ⟨t2, u2', l1, l2, l3⟩ | ⟨l1, l2⟩
   ·have := h.inj t1 t2 u1' u2' b k1 l1 k2 l2
    subst this
    rcases k3 with ⟨rfl, k3⟩ | ⟨k3, k4, rfl⟩
    ·rcases l3 with ⟨rfl, l3⟩ | ⟨l3, l4, rfl⟩
     ·rfl
     ·rcases k3 with k3 | k3
      ·exact k3.symm
      ·exact (l4 k3).elim
    ·rcases l3 with ⟨rfl, l3⟩ | ⟨l3, l4, rfl⟩
     ·rcases l3 with l3 | l3
      ·exact l3
      ·exact (k4 l3).elim
     ·rfl
   ·have := lt t1 u1' b k1 k2
    omega
  ·rcases old s2 v2 b h2 hb2 with ⟨t2, u2', l1, l2, l3⟩ | ⟨l1, l2⟩
   ·have := lt t2 u2' b l1 l2
    omega
   ·rw [k1, l1]
def nilG (n : Nat) (g : Nat → List V) : Prop := ∀ j, j < n → g j = [.sc (.slice none 0 0)]
def FS.toN (S : FS) (s ei : Nat) : Option (Prop × FS) := match S.H s with
 | some (.row e 1 n g fr) => some (nilG n g, S.sub s (.hn s) (some (.nest e ei n (fun _ => 0) (fun _ _ => []))))
 | _ => none
theorem Rel.toN {w0 : Base} {N : Nat} {S S' : FS} {σ : Sig} {a : Act} {w : World} (h : Rel w0 N S σ a w) {s ei : Nat} {p : Prop} (hf : S.toN s ei = some (p, S')) (hp : p) : ∃ σ', Rel w0 N S' σ' a w := by
 unfold FS.toN at hf
 split at hf
 ·rename_i e n g fr hH
  simp only [Option.some.injEq, Prod.mk.injEq] at hf
  obtain ⟨rfl, rfl⟩ := hf
  obtain ⟨v, hv, xs, h1, h2, h3, h4⟩ := h.sites s _ hH
  have hl : xs.length = n := by have := h1.1; omega
  have hnil : ∀ u ∈ xs, u = .slice none 0 0 := fun u hu => by
   obtain ⟨j, hj, rfl⟩ := List.getElem_of_mem hu
   obtain ⟨u, hu, hr⟩ := h4 j 0 (.sc (.slice none 0 0)) (by omega) (by rw [hp j (by omega)]; rfl)
   rw [Nat.mul_one, Nat.add_zero, List.getElem?_eq_getElem hj] at hu
   cases hu
   generalize xs[j] = u at hr
   cases hr
   rfl
  refine ⟨upd σ s (some (.tuple (v :: xs).toArray)), h.sub hv (Below.refl _ _) (fun _ _ _ => rfl) (fun u hu b hb => ?_) (fun h5 _ => ⟨⟨xs, by simp [upd]⟩, h5⟩) (fun k hk => ?_) (fun hk => by cases hk)⟩
  ·cases hu
   obtain ⟨u, hu, hb⟩ := own_tup.1 hb
   rcases List.mem_cons.1 hu with e | hu
   ·rw [e] at hb; exact .inl (own_of hb)
   ·rw [hnil u hu] at hb; cases hb
  ·cases hk
   refine ⟨_, rfl, fun _ => ⟨v, xs, rfl, h1, fun j u hu => ?_, fun j j' u u' b hu hu' hb => ?_, fun u hu b hb => ?_⟩⟩
   ·have := hnil u (List.mem_of_getElem? hu)
    subst this
    exact ⟨rfl, [], ⟨rfl, .inl ⟨rfl, rfl⟩⟩, fun x hx => by simp at hx, fun q hq => absurd hq (Nat.not_lt_zero q)⟩
   ·rw [hnil u (List.mem_of_getElem? hu)] at hb; cases hb
   ·rw [hnil u hu] at hb; cases hb
 ·cases hf
def nStore (P : Program) (t : TypeId) (av : AV) (xs : List CV) (S : FS) : Option (List Prop × FS) :=
 match P.info? t with
 | some i => if i.size = 1 then match av, xs with
   | .nptr s j, [.h q] => match S.H s, S.H q with
     | some (.nest e ei n m g), some (.row e' 1 m' g' _) => if e' = ei ∧ q ≠ s then some ([SC m' g'], S.mv q s true (.nest e ei n (upd m j m') (upd g j g'))) else none
     | _, _ => none
   | _, _ => none
   else none
 | none => none
theorem sc_at {m' : Nat} {g' : Nat → List V} {w : World} {ok : Nat → Prop} {xs : List Value} (hsc : SC m' g') (hl : ∀ j, j < m' → (g' j).length = 1) (h4 : ∀ (j q : Nat) x, j < m' → (g' j)[q]? = some x → ∃ u, xs[j * 1 + q]? = some u ∧ Rep w ok x u) :
  ∀ k, k < m' → ∃ x, g' k = [.sc x] ∧ xs[k]? = some x := fun k hk => by
 have h1 := hl k hk
 match hg : g' k, h1 with
 | [y], _ =>
   have h2 := hsc k hk y (by rw [hg]; simp)
   obtain ⟨u, hu, hr⟩ := h4 k 0 y hk (by rw [hg]; rfl)
   rw [Nat.mul_one, Nat.add_zero] at hu
   cases y with
   | sc x => cases hr; exact ⟨_, rfl, hu⟩
   | _ => cases h2
theorem nStore_ok {w0 : Base} {N : Nat} {o : Oper} {S S' : FS} {σ : Sig} {a : Act} {w : World} {t : TypeId} {x y : Operand} {av : AV} {xs : List CV} {obs : List Prop} (hop : o.op = .store t x y) (hd : o.dst = none)
  (h : Rel w0 N S σ a w) (hx : RepA w0.base w σ av (a.eval x)) (hy : RepCs w0.base w σ xs (a.eval y).cells.toList) (hs : nStore P t av xs S = some (obs, S')) (ho : All obs) : SeqOk P w0 N o S' a w := by
 unfold nStore at hs
 split at hs
 ·rename_i i hi
  split at hs
  ·rename_i hsz
   split at hs
   ·rename_i s j q
    split at hs
    ·rename_i e ei n m g e' m' g' fr hHs hHq
     split at hs
     ·rename_i hc
      obtain ⟨rfl, hne⟩ := hc
      simp only [Option.some.injEq, Prod.mk.injEq] at hs
      obtain ⟨rfl, rfl⟩ := hs
      have hsc : SC m' g' := ho
      obtain ⟨b, n', c, us, hσs, hj, hxe⟩ := hx
      obtain ⟨v, hv, hdd, us1, rfl, k1, k2, k3, k4⟩ := h.sites s _ hHs
      rw [hσs] at hv
      have hv : Value.slice (some ⟨b, 0, none⟩) n' c :: us = hdd :: us1 := by simpa using hv
      obtain ⟨rfl, rfl⟩ := List.cons.inj hv
      obtain ⟨vq, hvq, ys, q1, q2, q3, q4⟩ := h.sites q _ hHq
      rcases k1 with ⟨k1l, ⟨e0, _⟩ | ⟨b', cap, cur, e0, hb, hheap, hnc, hcm, hcs, htake⟩⟩
      ·cases e0
      simp only [Value.slice.injEq, Option.some.injEq, Addr.mk.injEq, and_true, true_and] at e0
      obtain ⟨rfl, rfl, rfl⟩ := e0
      rw [Nat.mul_one] at k1l hcs htake
      have hyl := hy.1
      have hyv : (a.eval y).cells.toList = [vq] := by
       match hcl : (a.eval y).cells.toList, hyl with
       | [u], _ =>
         have := hy.2 0 (.h q) u rfl (by rw [hcl]; rfl)
         rw [this.1] at hvq
         cases hvq
         rfl
      have hvq1 : vq.oneCell' = true := hy.one vq (by rw [hyv]; simp)
      obtain ⟨te, fz, hheap', hfz⟩ := hheap.cells
      have hrun := run_storeVar (P := P) (w := w) (t := t) (o := j) hi hheap' hfz (by rw [hyv, hsz]; rfl) (by rw [hyv]; simp; omega) hy.one
      rw [hyv] at hrun
      have hcurl : cur.toList.length = c := by rw [Array.length_toList]; exact hcs
      have hj1 : j + [vq].length ≤ cur.toList.length := by rw [hcurl]; simp; omega
      have hset : (splice cur.toList j [vq]).take n' = us.set j vq := by
       apply List.ext_getElem?
       intro k
       rw [List.getElem?_take, splice_get _ _ _ hj1, List.getElem?_set]
       have htk : us[k]? = if k < n' then cur.toList[k]? else none := by rw [← htake, List.getElem?_take]
       by_cases hk : k < n'
       ·rw [if_pos hk]
        by_cases e : j = k
        ·subst e
         rw [if_pos ⟨Nat.le_refl _, by simp⟩, if_pos rfl, if_pos (by omega)]
         simp
        ·rw [if_neg (by simp; omega), if_neg e, htk, if_pos hk]
       ·rw [if_neg hk, if_neg (by omega), htk, if_neg hk]
      have bne : ∀ u b', u ∈ us → Av.blk u = some b' → b' ≠ b := fun u b' hu hb' e => k4 u hu b' hb' (by rw [e]; rfl)
      have qne : ∀ b', Av.blk vq = some b' → ¬ Own (.tuple (.slice (some ⟨b, 0, none⟩) n' c :: us).toArray) b' := fun b' hb' ho' => hne (h.inj q s _ _ b' hvq hσs (own_of hb') ho')
      have far : ∀ b', b' ≠ b → (w.setRow b (splice cur.toList j [vq]).toArray).heap[b']? = w.heap[b']? := fun b' hb' => setRow_other w b b' _ hb'
      intro Kk Q hK
      unfold Oper.wp
      have hex : (execOp a.eval o).run P w = .ok .skip (w.setRow b (splice cur.toList j [vq]).toArray) := by
       simp [execOp, hop, hxe, Instr.storeAt, Instr.sureAddr, hrun]
      rw [hex]
      have e1 : a.put o.dst undef = a := by rw [hd]; rfl
      show Kk (a.put o.dst undef) _
      rw [e1]
      refine hK _ _ (mvσ σ q s (.tuple (.slice (some ⟨b, 0, none⟩) n' c :: us.set j vq).toArray)) (h.mv hne hvq hσs (fun _ => ⟨_, us.set j vq, rfl, .inr ⟨us, rfl⟩⟩) ⟨rfl, rfl, rfl, by simp, fun k hk => far k (by omega)⟩ (fun b' hb' hn1 _ => far b' (fun e => hn1 (own_tup.2 ⟨_, List.mem_cons_self, by rw [e]; rfl⟩))) (fun b' hb' => ?_) ?_)
      ·obtain ⟨u, hu, hb2⟩ := own_tup.1 hb'
       rcases List.mem_cons.1 hu with e | hu
       ·exact .inl (.inl (own_tup.2 ⟨u, by rw [e]; exact List.mem_cons_self, hb2⟩))
       ·rcases List.mem_or_eq_of_mem_set hu with hu | rfl
        ·exact .inl (.inl (own_tup.2 ⟨u, List.mem_cons_of_mem _ hu, hb2⟩))
        ·exact .inl (.inr (own_of hb2))
      ·refine ⟨_, us.set j vq, rfl, ⟨by rw [List.length_set, k1l, Nat.mul_one], .inr ⟨b, c, _, rfl, hb, hheap.setRow ?_, hnc, hcm, ?_, ?_⟩⟩, fun j' u hu => ?_, fun j1 j2 u1 u2 b' hu1 hu2 hb1 hb2 => ?_, fun u hu b' hb' => ?_⟩
       ·rw [List.size_toArray, splice_len _ _ _ hj1, Array.length_toList]
       ·rw [List.size_toArray, splice_len _ _ _ hj1, hcurl, Nat.mul_one]
       ·rw [Nat.mul_one]; exact hset
       ·rw [List.getElem?_set] at hu
        split at hu
        ·rename_i e
         subst e
         split at hu
         ·cases hu
          refine ⟨hvq1, ys, ?_, q2, ?_⟩
          ·simp only [upd, if_true]
           exact q1.far fun b' hb' => far b' (fun e => qne b' hb' (own_tup.2 ⟨_, List.mem_cons_self, by rw [e]; rfl⟩))
          ·simp only [upd, if_true]
           exact sc_at hsc q3 q4
         ·cases hu
        ·rename_i e
         obtain ⟨k5, zs, k6, k7, k8⟩ := k2 j' u hu
         simp only [upd]
         rw [if_neg (fun e' => e e'.symm), if_neg (fun e' => e e'.symm)]
         exact ⟨k5, zs, k6.far fun b' hb' => far b' (bne u b' (List.mem_of_getElem? hu) hb'), k7, k8⟩
       ·rw [List.getElem?_set] at hu1 hu2
        split at hu1
        ·rename_i ee1
         split at hu2
         ·rename_i ee2
          exact ee1.symm.trans ee2
         ·split at hu1
          ·cases hu1
           exact (qne b' hb1 (own_tup.2 ⟨u2, List.mem_cons_of_mem _ (List.mem_of_getElem? hu2), hb2⟩)).elim
          ·cases hu1
        ·split at hu2
         ·split at hu2
          ·cases hu2
           exact (qne b' hb2 (own_tup.2 ⟨u1, List.mem_cons_of_mem _ (List.mem_of_getElem? hu1), hb1⟩)).elim
          ·cases hu2
         ·exact k3 j1 j2 u1 u2 b' hu1 hu2 hb1 hb2
       ·rcases List.mem_or_eq_of_mem_set hu with hu | rfl
        ·exact k4 u hu b' hb'
        ·intro e
         exact qne b' hb' (own_tup.2 ⟨_, List.mem_cons_self, e⟩)
     ·cases hs
    ·cases hs
   ·cases hs
  ·cases hs
 ·cases hs
def nOther (P : Program) (o : Oper) (H : Nat → Option Content) (ev : Operand → AV) : Option (List Prop × AV) :=
 match o.op with
 | .indexAddr t x ix => match P.underlying t with
   | some (.slice e) => match P.info? e, scOf (ev ix) with
     | some inf, some (.int _ i) => match ev x with
       | .t (.c (.hn s)) => match H s with
         | some (.nest _ _ n _ _) => if inf.size = 1 then some ([0 ≤ i, i < (n : Int)], .nptr s i.toNat) else none
         | _ => none
       | .nhd s j => match H s with
         | some (.nest _ _ _ m _) => if inf.size = 1 then some ([0 ≤ i, i < (m j : Int)], .nelp s j i.toNat) else none
         | _ => none
       | _ => none
     | _, _ => none
   | _ => none
 | .fieldAddr t x f => match fieldsOf P t with
   | some fs => match fs[f]? with
     | some fd => match P.info? fd.type with
       | some i => if i.size = 0 ∨ fd.offset ≠ 0 then none else match ev x with
         | .nptr s j => some ([], .nptr s j)
         | _ => none
       | none => none
     | none => none
   | none => none
 | .load t x => match ev x with
   | .nptr s j => match loadV P t [.h 0], H s with
     | some (.t (.c (.h 0))), some (.nest _ _ _ _ _) => some ([], .nhd s j)
     | _, _ => none
   | .nelp s j q => match loadV P t [.h 0], H s with
     | some (.t (.c (.h 0))), some (.nest _ _ _ _ g) => some ([], .t (.c (.p true ((g j q).headD (.sc undef)))))
     | _, _ => none
   | _ => none
 | .call { callee := .builtin .len, args := args, argTypes := ts } => match args[0]?, ts[0]? with
   | some x, some t => match P.underlying t with
     | some (.slice _) => match ev x with
       | .t (.c (.hn s)) => match H s with
         | some (.nest _ _ n _ _) => some ([], scv (.int .i64 (n : Int)))
         | _ => none
       | _ => none
     | _ => none
   | _, _ => none
 | _ => none
theorem nOther_ok {base : Nat} {o : Oper} {H : Nat → Option Content} {σ : Sig} {a : Act} {w : World} {av : AV} {obs : List Prop} {ev : Operand → AV} (hr : ∀ s c, H s = some c → ∃ v, σ s = some v ∧ SiteOk base w σ v c) (hev : ∀ x, RepA base w σ (ev x) (a.eval x))
  (h : nOther P o H ev = some (obs, av)) (ho : All obs) : EffOk P base o ⟨av, []⟩ σ a w := by
 unfold nOther at h
 split at h
 ·rename_i t x ix hop
  split at h
  ·rename_i e hu
   split at h
   ·rename_i inf k i hinf hi
    have e2 := (scOf_rep hi (hev ix)).1
    split at h
    ·rename_i s hx
     split at h
     ·rename_i e1 ei n m g hs
      split at h
      ·rename_i hz
       simp only [Option.some.injEq, Prod.mk.injEq] at h
       obtain ⟨rfl, rfl⟩ := h
       simp only [All] at ho
       obtain ⟨h0, h1⟩ := ho
       obtain ⟨v, hv, hd, us, rfl, k1, _⟩ := hr s _ hs
       have h2 := hev x
       rw [hx] at h2
       obtain ⟨⟨us2, h3⟩, _⟩ := h2
       rw [hv] at h3
       have h3 : hd :: us = a.eval x :: us2 := by simpa using h3
       obtain ⟨h4, rfl⟩ := List.cons.inj h3
       obtain ⟨b, cap, rfl, _⟩ := k1.form (by omega)
       refine EffOk.still (v := .pointer (some ⟨b, i.toNat * 1, none⟩)) ?_ ⟨b, n, cap, us, hv, by omega, by rw [Nat.mul_one]⟩
       have : (0 ≤ i ∧ i < (n : Int)) := ⟨h0, h1⟩
       simp [execOp, hop, ← h4, e2, Instr.indexAt, asIntOf, underlying, hu, this, sizeOf, typeInfo, hinf, Addr.add_lit, hz]
      ·cases h
     ·cases h
    ·rename_i s j hx
     split at h
     ·rename_i e1 ei n m g hs
      split at h
      ·rename_i hz
       simp only [Option.some.injEq, Prod.mk.injEq] at h
       obtain ⟨rfl, rfl⟩ := h
       simp only [All] at ho
       obtain ⟨h0, h1⟩ := ho
       obtain ⟨v, hv, hd, us, rfl, k1, k2, _⟩ := hr s _ hs
       have h2 := hev x
       rw [hx] at h2
       obtain ⟨hd2, us2, h3, h4, h5⟩ := h2
       rw [hv] at h3
       have h3 : hd :: us = hd2 :: us2 := by simpa using h3
       obtain ⟨rfl, rfl⟩ := List.cons.inj h3
       obtain ⟨_, xs, q1, _⟩ := k2 j _ h4
       obtain ⟨b, cap, hb, _⟩ := q1.form (by omega)
       rw [hb] at h4
       refine EffOk.still (v := .pointer (some ⟨b, i.toNat * 1, none⟩)) ?_ ⟨hd, us, b, m j, cap, hv, h4, by omega, by rw [Nat.mul_one]⟩
       have : (0 ≤ i ∧ i < (m j : Int)) := ⟨h0, h1⟩
       simp [execOp, hop, hb, e2, Instr.indexAt, asIntOf, underlying, hu, this, sizeOf, typeInfo, hinf, Addr.add_lit, hz]
      ·cases h
     ·cases h
    ·cases h
   ·cases h
  ·cases h
 ·rename_i t x f hop
  split at h
  ·rename_i fs hfs
   split at h
   ·rename_i fd hfd
    split at h
    ·rename_i i hi
     split at h
     ·cases h
     ·rename_i hsz
      split at h
      ·rename_i s j hx
       simp only [Option.some.injEq, Prod.mk.injEq] at h
       obtain ⟨rfl, rfl⟩ := h
       have hu : P.underlying t = some (.struct fs) := by
        unfold fieldsOf at hfs
        split at hfs
        ·rename_i hu; cases hfs; exact hu
        ·cases hfs
       have h2 := hev x
       rw [hx] at h2
       obtain ⟨b, n, c, us, k1, k2, k3⟩ := h2
       have hs0 : ¬ i.size = 0 := fun e => hsz (.inl e)
       have ho0 : fd.offset = 0 := Decidable.byContradiction fun e => hsz (.inr e)
       refine EffOk.still (v := .pointer (some ⟨b, j, none⟩)) ?_ ⟨b, n, c, us, k1, k2, rfl⟩
       simp [execOp, hop, k3, Instr.fieldAt, underlying, hu, hfd, Instr.sureAddr, fieldPlace, sizeOf, typeInfo, hi, hs0, ho0, Addr.add_lit]
      ·cases h
    ·cases h
   ·cases h
  ·cases h
 ·rename_i t x hop
  split at h
  ·rename_i s j hx
   split at h
   ·rename_i e ei n m g hl hs
    simp only [Option.some.injEq, Prod.mk.injEq] at h
    obtain ⟨rfl, rfl⟩ := h
    obtain ⟨v, hv, hd, us, rfl, k1, k2, k3, k4⟩ := hr s _ hs
    have h2 := hev x
    rw [hx] at h2
    obtain ⟨b, n', c, us2, q1, q2, q3⟩ := h2
    rw [hv] at q1
    have q1 : hd :: us = .slice (some ⟨b, 0, none⟩) n' c :: us2 := by simpa using q1
    obtain ⟨rfl, rfl⟩ := List.cons.inj q1
    have hn : n' = n := by
     rcases k1.2 with ⟨e, _⟩ | ⟨b', cap, cur, e, _⟩
     ·cases e
     ·simp only [Value.slice.injEq] at e; exact e.2.1
    subst hn
    have hlen : us.length = n' := by have := k1.1; omega
    have hju : us[j]? = some us[j] := List.getElem?_eq_getElem (by omega)
    have hcell := k1.cellAt j (by omega)
    rw [hju] at hcell
    have h1 := (k2 j _ hju).1
    obtain ⟨u, hu, hru⟩ := run_loadV (P := P) (base := base) (w := w) (σ := fun _ => some us[j]) (ad := ⟨b, j, none⟩) hl (.inr ⟨[us[j]], ⟨rfl, fun i c v hc hv => by
     cases i with
     | zero => simp at hc hv; subst hc; subst hv; exact ⟨rfl, h1⟩
     | succ i => simp at hc⟩, fun i u hi => by
     cases i with
     | zero => simp at hi; subst hi; simpa [Addr.add_lit] using hcell
     | succ i => simp at hi⟩)
    have hru : some us[j] = some u ∧ _ := hru
    have e := Option.some.inj hru.1
    subst e
    refine EffOk.still (v := us[j]) ?_ ⟨_, us, hv, hju, h1⟩
    simp [execOp, hop, q3, Instr.loadAt, Instr.sureAddr, hu]
   ·cases h
  ·rename_i s j q hx
   split at h
   ·rename_i e ei n m g hl hs
    simp only [Option.some.injEq, Prod.mk.injEq] at h
    obtain ⟨rfl, rfl⟩ := h
    obtain ⟨v, hv, hd, us, rfl, k1, k2, k3, k4⟩ := hr s _ hs
    have h2 := hev x
    rw [hx] at h2
    obtain ⟨hd2, us2, b, n', c, q1, q2, q3, q4⟩ := h2
    rw [hv] at q1
    have q1 : hd :: us = hd2 :: us2 := by simpa using q1
    obtain ⟨rfl, rfl⟩ := List.cons.inj q1
    obtain ⟨_, xs, r1, r2, r3⟩ := k2 j _ q2
    have hn : n' = m j := by
     rcases r1.2 with ⟨e, _⟩ | ⟨b', cap, cur, e, _⟩
     ·cases e
     ·simp only [Value.slice.injEq] at e; exact e.2.1
    subst hn
    obtain ⟨y, hy, hy2⟩ := r3 q q3
    have hcell := r1.cellAt q (by omega)
    rw [hy2] at hcell
    have h1 := r2 y (List.mem_of_getElem? hy2)
    obtain ⟨u, hu, hru⟩ := run_loadV (P := P) (base := base) (w := w) (σ := fun _ => some y) (ad := ⟨b, q, none⟩) hl (.inr ⟨[y], ⟨rfl, fun i c v hc hv => by
     cases i with
     | zero => simp at hc hv; subst hc; subst hv; exact ⟨rfl, h1⟩
     | succ i => simp at hc⟩, fun i u hi => by
     cases i with
     | zero => simp at hi; subst hi; simpa [Addr.add_lit] using hcell
     | succ i => simp at hi⟩)
    have hru : some y = some u ∧ _ := hru
    have e := Option.some.inj hru.1
    subst e
    refine EffOk.still (v := y) ?_ (by rw [hy]; exact .sc y h1)
    simp [execOp, hop, q4, Instr.loadAt, Instr.sureAddr, hu]
   ·cases h
  ·cases h
 ·rename_i args ts hop
  split at h
  ·rename_i x t hx ht
   split at h
   ·rename_i e hu
    split at h
    ·rename_i s hxs
     split at h
     ·rename_i e1 ei n m g hs
      simp only [Option.some.injEq, Prod.mk.injEq] at h
      obtain ⟨rfl, rfl⟩ := h
      obtain ⟨v, hv, hd, us, rfl, k1, _⟩ := hr s _ hs
      have h2 := hev x
      rw [hxs] at h2
      obtain ⟨⟨us2, h3⟩, _⟩ := h2
      rw [hv] at h3
      have h3 : hd :: us = a.eval x :: us2 := by simpa using h3
      obtain ⟨h4, rfl⟩ := List.cons.inj h3
      have run : ∀ n : Int, (Builtin.len_ ts o.type (args.map a.eval)).run P w = .ok (.int .i64 n) w → (execOp a.eval o).run P w = .ok (.value (.int .i64 n)) w := fun n hn => by
       simp [execOp, hop, resolve, invoke, builtin, hn]
      have hx' : (args.map a.eval)[0]? = some (a.eval x) := by simp [hx]
      refine EffOk.still (run n ?_) (rep_scv rfl)
      rw [← h4] at hx'
      rcases k1.2 with ⟨rfl, rfl⟩ | ⟨b', cap, cur, rfl, _⟩
      ·simp only [Builtin.len_, ht, hx']
       simp [underlying, hu, goInt]
      ·simp only [Builtin.len_, ht, hx']
       simp [underlying, hu, goInt]
     ·cases h
    ·cases h
   ·cases h
  ·cases h
 ·cases h
def patP : AV → Bool
 | .t (.c (.p _ _)) => true
 | _ => false
def iStep (S : FS) (ev : Operand → AV) (C : WCon P) (f : Operand) (args : List Operand) (dst : Option Nat) : Option (List Prop × FS) :=
 match ev f, args, C.args, C.cin, C.cout with
 | .fn g [], x :: xs, .t (.c (.h 0)) :: rest, [(0, .row e1 1 m1 g1 _)], [(0, .row e2 1 m2 g2 _)] => match ev x with
   | .nhd s j => match S.H s with
     | some (.nest e ei n m gg) => match fitAll (xs.map ev) rest with
       | some l => if e1 = ei ∧ e2 = ei ∧ rest.all patP = true then some ((C.f = g) :: (m j = m1) :: (∀ q, q < m1 → gg j q = g1 q) :: SC m2 g2 :: l, (FS.put ⟨S.T, upd S.H s (some (.nest e ei n (upd m j m2) (upd gg j g2)))⟩ dst (scv C.res))) else none
       | none => none
     | _ => none
   | _ => none
 | _, _, _, _, _ => none
theorem icall_ok {w0 : Base} {N : Nat} {S S' : FS} {o : Oper} {C : WCon P} {f : Operand} {xs : List Operand} {obs : List Prop} {ts : Array TypeId} {σ : Sig} {a : Act} {w : World} {ev : Operand → AV} (hr : Rel w0 N S σ a w) (hev : ∀ x, RepA w0.base w σ (ev x) (a.eval x))
  (hop : o.op = .call { callee := .value f, args := xs.toArray, argTypes := ts }) (h : iStep S ev C f xs o.dst = some (obs, S')) (ho : All obs) (hd : ∀ d, o.dst = some d → d < N) : SeqOk P w0 N o S' a w := by
 unfold iStep at h
 split at h
 ·rename_i g x xs rest e1 m1 g1 fr1 e2 m2 g2 fr2 hg hargs hcin hcout
  split at h
  ·rename_i s j hx
   split at h
   ·rename_i e ei n m gg hH
    split at h
    ·rename_i l hfit
     split at h
     ·rename_i hc
      obtain ⟨rfl, rfl, hpat⟩ := hc
      simp only [Option.some.injEq, Prod.mk.injEq] at h
      obtain ⟨rfl, rfl⟩ := h
      obtain ⟨rfl, ho1⟩ := All.cons.1 ho
      obtain ⟨hm, ho2⟩ := All.cons.1 ho1
      obtain ⟨hgg, ho3⟩ := All.cons.1 ho2
      obtain ⟨hsc, ho4⟩ := All.cons.1 ho3
      obtain ⟨ps, hfe, hpl⟩ : ∃ ps : List Value, a.eval f = .func (.func C.f) #[] ps.toArray ∧ ps.length = 0 := by
       have := hev f
       rw [hg] at this
       obtain ⟨ps, h1, h2, _⟩ := this
       exact ⟨ps, h1, by simpa using h2⟩
      obtain rfl := List.eq_nil_of_length_eq_zero hpl
      obtain ⟨v, hv, hdd, us, rfl, k1, k2, k3, k4⟩ := hr.sites s _ hH
      have h2 := hev x
      rw [hx] at h2
      obtain ⟨hd2, us2, q1, hju, h1⟩ := h2
      rw [hv] at q1
      have q1 : hdd :: us = hd2 :: us2 := by simpa using q1
      obtain ⟨rfl, rfl⟩ := List.cons.inj q1
      obtain ⟨_, ys, q2, q3, q4⟩ := k2 j _ hju
      generalize hu : a.eval x = u at hju h1 q2
      obtain ⟨hlen, hat⟩ := fitAll_at hfit ho4
      have hself : Evo σ σ w w := ⟨Nat.le_refl _, fun _ _ _ => rfl, fun _ _ h => h⟩
      let σc : Sig := fun s => if s = 0 then some u else none
      have σc0 : σc 0 = some u := rfl
      have hlive : ∀ b, Live σc b → Av.blk u = some b := fun b ⟨s', v', hs', hb⟩ => by
       simp only [σc] at hs'
       split at hs'
       ·cases hs'
        rcases hb with hb | ⟨us', e, _⟩
        ·exact hb
        ·rw [e] at h1; cases h1
       ·cases hs'
      have hown : ∀ b, Av.blk u = some b → Own (.tuple (hdd :: us).toArray) b := fun b hb => own_tup.2 ⟨u, List.mem_cons_of_mem _ (List.mem_of_getElem? hju), hb⟩
      have hsub : ∀ b, Live σc b → Live σ b := fun b hb => ⟨s, _, hv, hown b (hlive b hb)⟩
      have hcall := C.ok w w0.base σc ((x :: xs).map a.eval) hr.based (by rw [hargs]; simp at hlen ⊢; omega)
       (fun i av u' hav hu' => by
         rw [hargs] at hav
         cases i with
         | zero =>
           simp at hav hu'
           subst hav
           rw [hu] at hu'
           subst hu'
           exact ⟨rfl, h1⟩
         | succ i =>
           simp only [List.map_cons, List.getElem?_cons_succ] at hav hu'
           rw [List.getElem?_map] at hu'
           obtain ⟨y, hy, rfl⟩ := Option.map_eq_some_iff.1 hu'
           obtain ⟨l1, r1, r2⟩ := hat i (ev y) av (by rw [List.getElem?_map, hy]; rfl) hav
           have h5 := fitAV_ok (σ' := σ) hself r1 r2 (fun _ _ => rfl) (hev y)
           have h6 := List.all_eq_true.1 hpat av (List.mem_of_getElem? hav)
           cases av with
           | t t => cases t with
             | c c => cases c with
               | p fr z => exact Rep.mono h5 (fun _ _ => rfl) (fun b hb => ⟨hb.1, fun hl => hb.2.1 (hsub b hl), hb.2.2⟩)
               | _ => cases h6
             | _ => cases h6
           | _ => cases h6)
       (fun s' c hs' => by
         rw [hcin] at hs'
         simp only [List.lookup_cons, List.lookup_nil] at hs'
         split at hs'
         ·rename_i e'
          have e' : s' = 0 := by simpa using e'
          subst e'
          cases hs'
          subst hm
          refine ⟨u, rfl, ys, q2, q3, fun k hk => ?_, fun k q z hk hz => ?_⟩
          ·obtain ⟨z, hz, _⟩ := q4 k hk
           rw [← hgg k hk, hz]
           rfl
          ·obtain ⟨z', hz', hz2⟩ := q4 k hk
           rw [← hgg k hk, hz'] at hz
           cases q with
           | succ q => simp at hz
           | zero =>
             simp at hz
             subst hz
             exact ⟨z', by rw [Nat.mul_one, Nat.add_zero]; exact hz2, .sc z' (q3 z' (List.mem_of_getElem? hz2))⟩
         ·cases hs')
       (fun s' hs' => by
         rw [hcin] at hs'
         simp only [List.lookup_cons, List.lookup_nil] at hs'
         simp only [σc]
         split
         ·rename_i e'
          subst e'
          simp at hs'
         ·rfl)
       (fun s1 s2 v1 v2 b hs1 hs2 _ _ => by
         simp only [σc] at hs1 hs2
         split at hs1
         ·split at hs2
          ·omega
          ·cases hs2
         ·cases hs1)
      obtain ⟨fn, hfn, hname, hbody⟩ := C.go
      have hrun : (execOp a.eval o).run P w = .ok (.enter C.f ((x :: xs).map a.eval).toArray) w := by
       have hne : fn.body.isNone = false := by cases hb : fn.body with
        | none => rw [hb] at hbody; cases hbody
        | some c => rfl
       have hname' : fn.name ≠ "runtime.NumGoroutine" := by simpa using hname
       have hne' : fn.body ≠ none := by intro e; rw [e] at hne; cases hne
       simp [execOp, hop, resolve, hfe, Deferred.ofValue, invoke, callFunc, hfn]
       rw [if_neg hname', if_neg hne']
      intro Kk Q hK
      unfold Oper.wp
      rw [hrun]
      show Calls P C.f ((x :: xs).map a.eval).toArray w _
      refine hcall.mono ?_
      rintro ex w' ⟨rfl, hbel, hkeep, hout⟩
      obtain ⟨u', hu', hsite⟩ := hout 0 (.row _ 1 m2 g2 fr2) (by rw [hcout]; rfl)
      cases hu'
      obtain ⟨zs, z1, z2, z3, z4⟩ := hsite (fun _ => none)
      have hkeep' : ∀ b, b < w.heap.size → Av.blk u ≠ some b → w'.heap[b]? = w.heap[b]? := fun b hb hne => hkeep b hb (fun hl => hne (hlive b hl))
      have hrel : Rel w0 N ⟨S.T, upd S.H s (some (.nest e e2 n (upd m j m2) (upd gg j g2)))⟩ σ a w' := by
       refine hr.write hv ⟨hbel.os, hbel.tape, hbel.output, hbel.size, fun b hb => hkeep' b (Nat.lt_of_lt_of_le hb hr.based) (fun e' => ?_)⟩ (fun b hb hno => hkeep' b hb (fun e' => hno (hown b e'))) (fun _ => ?_)
       ·have := (q2.blk e').1
        omega
       ·refine ⟨hdd, us, rfl, k1.far fun b hb => hkeep' b (k1.blk hb).2 (fun e' => k4 u (List.mem_of_getElem? hju) b e' hb), fun j' u' hu' => ?_, k3, k4⟩
        obtain ⟨k5, zs', k6, k7, k8⟩ := k2 j' u' hu'
        by_cases e' : j' = j
        ·subst e'
         rw [hju] at hu'
         cases hu'
         refine ⟨k5, zs, ?_, z2, ?_⟩
         ·simp only [upd, if_true]; exact z1
         ·simp only [upd, if_true]; exact sc_at hsc z3 z4
        ·simp only [upd]
         rw [if_neg e', if_neg e']
         exact ⟨k5, zs', k6.far fun b hb => hkeep' b (k6.blk hb).2 (fun e2 => e' (k3 j' j u' u b hu' hju hb e2)), k7, k8⟩
      exact hK _ w' σ (hrel.put hd (rep_scv C.one))
     ·cases h
    ·cases h
   ·cases h
  ·cases h
 ·cases h
theorem none_of' {w0 : Base} {N : Nat} {S : FS} {σ : Sig} {a : Act} {w : World} (h : Rel w0 N S σ a w) {s : Nat} (hs : σ s = none) : S.H s = none := by
 cases hH : S.H s with
 | none => rfl
 | some c =>
   obtain ⟨v, hv, _⟩ := h.sites s c hH
   rw [hs] at hv
   cases hv
theorem appR {w0 : Base} {N : Nat} {S : FS} {σ σ' : Sig} {a : Act} {w w' : World} {E : Eff} {dst : Option Nat} {v : Value} (h : Rel w0 N S σ a w) (hg : Grow w0.base σ σ' w w' E.news)
  (hn : ∀ s, E.news.lookup s ≠ none → S.H s = none) (hd : ∀ d, dst = some d → d < N) (hv : RepA w0.base w' σ' E.av v) : Rel w0 N (S.app dst E) σ' (a.put dst v) w' :=
 (h.grow hg hn).put hd hv
def nLit (P : Program) (o : Oper) (S : FS) (ev : Operand → AV) : Option (List Prop × FS) :=
 match o.op, o.dst with
 | .buildSlice t 1 parts, some d => match P.underlying t, parts.toList with
   | some (.slice e), [(0, x)] => match P.info? e, zeroV P e, cellsOf (ev x) with
     | some inf, some [_], some [.h q] => match S.H q with
       | some (.row ei 1 m g _) => if inf.size = 1 ∧ e < MK ∧ q ≠ siteOf d 0 then some ([SC m g], (S.put (some d) (.t (.c (.h (siteOf d 0))))).mv q (siteOf d 0) true (.nest e ei 1 (fun _ => m) (fun _ => g))) else none
       | _ => none
     | _, _, _ => none
   | _, _ => none
 | _, _ => none
def litQ (P : Program) (o : Oper) (H : Nat → Option Content) (ev : Operand → AV) : Option (List Prop × Nat × Nat × Content) :=
 match o.op, o.dst with
 | .buildSlice t 1 parts, some d => match P.underlying t, parts.toList with
   | some (.slice e), [(0, x)] => match P.info? e, zeroV P e, cellsOf (ev x) with
     | some inf, some [_], some [.h q] => match H q with
       | some (.row ei 1 m g _) => if inf.size = 1 ∧ e < MK ∧ q ≠ siteOf d 0 then some ([SC m g], d, q, .nest e ei 1 (fun _ => m) (fun _ => g)) else none
       | _ => none
     | _, _, _ => none
   | _, _ => none
 | _, _ => none
theorem nLit_of {o : Oper} {H : Nat → Option Content} {S : FS} {ev : Operand → AV} {obs : List Prop} {d q : Nat} {c : Content} (hH : ∀ s c, H s = some c → S.H s = some c) (h : litQ P o H ev = some (obs, d, q, c)) :
  nLit P o S ev = some (obs, (S.put (some d) (.t (.c (.h (siteOf d 0))))).mv q (siteOf d 0) true c) ∧ o.dst = some d ∧ q ≠ siteOf d 0 := by
 unfold litQ at h
 split at h
 ·rename_i t parts d hop hdst
  split at h
  ·rename_i e x hu hparts
   split at h
   ·rename_i inf z0 q hinf hz hc
    split at h
    ·rename_i ei m g fr hq
     split at h
     ·rename_i hcond
      simp only [Option.some.injEq, Prod.mk.injEq] at h
      obtain ⟨rfl, rfl, rfl, rfl⟩ := h
      refine ⟨?_, hdst, hcond.2.2⟩
      unfold nLit
      rw [hop, hdst]
      simp only [hu, hparts, hinf, hz, hc, hH _ _ hq]
      rw [if_pos hcond]
     ·cases h
    ·cases h
   ·cases h
  ·cases h
 ·cases h
theorem mvC_sub {q s : Nat} {c : CV} (h : s ∉ c.sites) : mvC q s true c = subC q .any c := by
 cases c with
 | h s' =>
   have e : s' ≠ s := fun e => h (by subst e; simp [CV.sites])
   simp only [mvC, subC, if_neg e]
 | hn s' =>
   have e : s' ≠ s := fun e => h (by subst e; simp [CV.sites])
   simp only [mvC, subC, if_neg e]
 | hv s' x =>
   have e : s' ≠ s := fun e => h (by subst e; simp [CV.sites])
   simp only [mvC, subC, e, or_false]
 | _ => rfl
theorem mvT_sub {q s : Nat} {c : TV} (h : s ∉ c.sites) : mvT q s true c = subT q .any c := by
 cases c with
 | c x => exact congrArg TV.c (mvC_sub h)
 | agg xs => exact congrArg TV.agg (List.map_congr_left fun x hx => mvC_sub fun hs => h (List.mem_flatMap.2 ⟨x, hx, hs⟩))
theorem mvA_sub {q s : Nat} {c : AV} (h : s ∉ c.sites) : mvA q s true c = subA q .any c := by
 have ne : ∀ s', s' ∈ c.sites → s' ≠ s := fun s' hs e => h (e ▸ hs)
 cases c with
 | t y => exact congrArg AV.t (mvT_sub h)
 | tup ys => exact congrArg AV.tup (List.map_congr_left fun x hx => mvT_sub fun hs => h (List.mem_flatMap.2 ⟨x, hx, hs⟩))
 | fn g caps =>
   have : (caps.map (·.1)).contains s = false := by
    cases hc : (caps.map (·.1)).contains s with
    | false => rfl
    | true => exact absurd (List.contains_iff_mem.1 hc) h
   simp only [mvA, subA, this, Bool.false_eq_true, or_false]
 | ptr s' off => simp only [mvA, subA, ne s' (by simp [AV.sites]), or_false]
 | eptr s' z j k => simp only [mvA, subA, ne s' (by simp [AV.sites]), or_false]
 | nptr s' j => simp only [mvA, subA, ne s' (by simp [AV.sites]), false_and, or_false]
 | nhd s' j => simp only [mvA, subA, ne s' (by simp [AV.sites]), or_false]
 | nelp s' j k => simp only [mvA, subA, ne s' (by simp [AV.sites]), or_false]
 | _ => rfl
theorem mvK_sub {q s : Nat} {c : Content} (h : ∀ t cs, c = .box t cs → s ∉ cs.flatMap CV.sites) : mvK q s true c = subK q .any c := by
 cases c with
 | box t cs => exact congrArg (Content.box t) (List.map_congr_left fun x hx => mvC_sub fun hs => h t cs rfl (List.mem_flatMap.2 ⟨x, hx, hs⟩))
 | _ => rfl
theorem cells_h {base : Nat} {w : World} {σ : Sig} {av : AV} {q : Nat} {u : Value} (h : cellsOf av = some [.h q]) (hr : RepA base w σ av u) : ∃ vq, σ q = some vq ∧ vq.oneCell' = true ∧ u.cells.toList = [vq] := by
 have h1 := cellsOf_rep h hr
 match hc : u.cells.toList, h1.1 with
 | [v], _ =>
   have h2 := h1.2 0 (.h q) v rfl (by rw [hc]; rfl)
   exact ⟨v, h2.1, h2.2, rfl⟩
theorem cellsOf_sub {av : AV} {q : Nat} {x : V} (h : cellsOf av = some [.h q]) : cellsOf (subA q (.p true x) av) = some [.p true x] := by
 unfold cellsOf at h
 split at h
 ·cases h; simp [subA, subT, subC, cellsOf]
 ·cases h; simp [subA, subT, subC, cellsOf]
 ·cases h
theorem nLit_ok {w0 : Base} {N : Nat} {o : Oper} {S S' : FS} {σ : Sig} {a : Act} {w : World} {obs : List Prop} {ev : Operand → AV} (hr : Rel w0 N S σ a w) (hfree : ∀ d, o.dst = some d → σ (siteOf d 0) = none) (hev : ∀ x, RepA w0.base w σ (ev x) (a.eval x))
  (h : nLit P o S ev = some (obs, S')) (ho : All obs) (hd : ∀ d, o.dst = some d → d < N) : SeqOk P w0 N o S' a w := by
 unfold nLit at h
 split at h
 ·rename_i t parts d hop hdst
  split at h
  ·rename_i e x hu hparts
   split at h
   ·rename_i inf z0 q hinf hz hc
    split at h
    ·rename_i ei m g fr hH
     split at h
     ·rename_i hcond
      obtain ⟨hsz, hmk, hne⟩ := hcond
      simp only [Option.some.injEq, Prod.mk.injEq] at h
      obtain ⟨rfl, rfl⟩ := h
      have hsc : SC m g := ho
      obtain ⟨vq, hvq, hvq1, _⟩ := cells_h hc (hev x)
      have hself : Evo σ σ w w := ⟨Nat.le_refl _, fun _ _ _ => rfl, fun _ _ h => h⟩
      have hsub : SubOk w0.base σ σ w q (.p true (.sc vq)) := ⟨fun _ _ => rfl, fun v hv _ => by rw [hvq] at hv; cases hv; exact .sc _ hvq1⟩
      have hev' : ∀ y, RepA w0.base w σ (subA q (.p true (.sc vq)) (ev y)) (a.eval y) := fun y => sub_repA hself hsub (hev y)
      have hop' : evOp P o (fun y => subA q (.p true (.sc vq)) (ev y)) S.H = some ([], ⟨.t (.c (.h (siteOf d 0))), [(siteOf d 0, .row e 1 1 (chunk 1 [.sc vq]) true)]⟩) := by
       unfold evOp
       rw [hop]
       simp only [hu, hdst, hinf, hz, hparts, hsz, partsOf, cellsOf_sub hc]
       rw [if_neg (by simp; exact hmk)]
       rfl
      have heff := evOp_ok hop' trivial hev' hr.sites hr.based (fun s hs => by
       have e1 : s = siteOf d 0 := by
        simp only [List.lookup_cons, List.lookup_nil] at hs
        split at hs
        ·rename_i he; simpa using he
        ·exact absurd rfl hs
       rw [e1]
       exact hfree d hdst)
      intro Kk Q hK
      refine heff Kk Q (fun v w' σ' hg hrv => ?_)
      have hr' := appR hr (dst := o.dst) hg (fun s hs => none_of' hr (by
       have e1 : s = siteOf d 0 := by
        simp only [List.lookup_cons, List.lookup_nil] at hs
        split at hs
        ·rename_i he; simpa using he
        ·exact absurd rfl hs
       rw [e1]
       exact hfree d hdst)) hd hrv
      have hq' : σ' q = some vq := by
       rw [hg.ext q (by simp [List.lookup_cons, (show (q == siteOf d 0) = false by simpa using hne)])]
       exact hvq
      have hHs : (S.app o.dst ⟨.t (.c (.h (siteOf d 0))), [(siteOf d 0, .row e 1 1 (chunk 1 [.sc vq]) true)]⟩).H (siteOf d 0) = some (.row e 1 1 (chunk 1 [.sc vq]) true) := by
       rw [hdst]; simp [FS.app, FS.put, FS.add]
      have hHq : (S.app o.dst ⟨.t (.c (.h (siteOf d 0))), [(siteOf d 0, .row e 1 1 (chunk 1 [.sc vq]) true)]⟩).H q = some (.row ei 1 m g fr) := by
       rw [hdst]
       have hqf : (q == siteOf d 0) = false := by simpa using hne
       simp only [FS.app, FS.put, FS.add, List.lookup_cons, List.lookup_nil, hqf]
       exact hH
      obtain ⟨sv, hsv, xs, k1, k2, k3, k4⟩ := hr'.sites _ _ hHs
      obtain ⟨vq2, hvq2, ys, q1, q2, q3, q4⟩ := hr'.sites _ _ hHq
      rw [hq'] at hvq2
      cases hvq2
      have hxs : xs = [vq] := by
       obtain ⟨u, hu2, hru⟩ := k4 0 0 (.sc vq) (by omega) rfl
       have hl := k1.1
       match xs, hl with
       | [y], _ =>
         simp at hu2
         subst hu2
         cases hru
         rfl
      subst hxs
      have hsv1 : sv.oneCell' = true := by rcases k1.2 with ⟨rfl, _⟩ | ⟨_, _, _, rfl, _⟩ <;> rfl
      have hmv := hr'.mv (q := q) (s := siteOf d 0) (b := true) (vq := vq) (v0 := sv) (u1 := .tuple (sv :: [vq]).toArray) (c := .nest e ei 1 (fun _ => m) (fun _ => g)) hne hq' hsv (fun _ => ⟨sv, [vq], rfl, .inl ⟨rfl, hsv1⟩⟩) (Below.refl _ _) (fun _ _ _ _ => rfl)
       (fun b hb => by
         obtain ⟨u, hu2, hb2⟩ := own_tup.1 hb
         simp only [List.mem_cons, List.not_mem_nil, or_false] at hu2
         rcases hu2 with rfl | rfl
         ·exact .inl (.inl (own_of hb2))
         ·exact .inl (.inr (own_of hb2)))
       ⟨sv, [vq], rfl, k1, fun j u hj => by
         cases j with
         | succ j => simp at hj
         | zero =>
           simp at hj
           subst hj
           exact ⟨hvq1, ys, q1, q2, sc_at hsc q3 q4⟩, fun j j' u u' b hj hj' _ _ => by
         cases j with
         | succ j => simp at hj
         | zero =>
           cases j' with
           | succ j' => simp at hj'
           | zero => rfl, fun u hu2 b hb hb2 => by
         simp at hu2
         subst hu2
         exact hne (hr'.inj q (siteOf d 0) u sv b hq' hsv (own_of hb) (own_of hb2))⟩
      have hfs : (S.app o.dst ⟨.t (.c (.h (siteOf d 0))), [(siteOf d 0, .row e 1 1 (chunk 1 [.sc vq]) true)]⟩).mv q (siteOf d 0) true (.nest e ei 1 (fun _ => m) (fun _ => g)) = (S.put (some d) (.t (.c (.h (siteOf d 0))))).mv q (siteOf d 0) true (.nest e ei 1 (fun _ => m) (fun _ => g)) := by
       rw [hdst]
       unfold FS.mv FS.app FS.put FS.add
       simp only
       congr 1
       funext s'
       simp only [upd]
       by_cases e1 : s' = siteOf d 0
       ·rw [if_pos e1, if_pos e1]
       ·rw [if_neg e1, if_neg e1]
        have : ([(siteOf d 0, Content.row e 1 1 (chunk 1 [.sc vq]) true)] : List (Nat × Content)).lookup s' = none := by
         have e2 : (s' == siteOf d 0) = false := by simpa using e1
         simp only [List.lookup_cons, List.lookup_nil, e2]
        rw [this]
      rw [hfs] at hmv
      exact hK _ _ _ hmv
     ·cases h
    ·cases h
   ·cases h
  ·cases h
 ·cases h
def nAppend (P : Program) (t : TypeId) (ax ay : AV) (S : FS) : Option (List Prop × Nat × FS) :=
 match P.underlying t, ax, ay with
 | some (.slice e), .t (.c (.hn s)), .t (.c (.hn q)) => match P.info? e, S.H s, S.H q with
   | some inf, some (.nest e1 ei n m g), some (.nest e2 ei2 n2 m2 g2) => if e < MK ∧ e1 = e ∧ e2 = e ∧ ei2 = ei ∧ 1 = inf.size ∧ 0 < inf.bytes ∧ ((inf.zero.map fun zv => zv.cells.size) = some inf.size) ∧ q ≠ s then
      some ([(n + n2) * inf.bytes ≤ 140737488355328], s, S.mv q s false (.nest e ei (n + n2) (fun j => if j < n then m j else m2 (j - n)) (fun j => if j < n then g j else g2 (j - n)))) else none
   | _, _, _ => none
 | _, _, _ => none
theorem nAppend_ok {w0 : Base} {N : Nat} {o : Oper} {S S' : FS} {σ : Sig} {a : Act} {w : World} {t : TypeId} {x y : Operand} {sid : Nat} {obs : List Prop} {ax ay : AV}
  (hop : o.op = .call { callee := .builtin .append, args := #[x, y], argTypes := #[t, t] }) (h : Rel w0 N S σ a w) (hx : RepA w0.base w σ ax (a.eval x)) (hy : RepA w0.base w σ ay (a.eval y))
  (hs : nAppend P t ax ay S = some (obs, sid, S')) (ho : All obs) (hd : ∀ d, o.dst = some d → d < N) : SeqOk P w0 N o (S'.put o.dst (.t (.c (.hn sid)))) a w := by
 unfold nAppend at hs
 split at hs
 ·rename_i e s q hu
  split at hs
  ·rename_i inf e1 ei n m g e2 ei2 n2 m2 g2 hinf hHs hHq
   split at hs
   ·rename_i hc
    obtain ⟨hmk, he1, he2, he3, hz, hb0, hzero, hne⟩ := hc
    subst he1 he2 he3
    simp only [Option.some.injEq, Prod.mk.injEq] at hs
    obtain ⟨rfl, rfl, rfl⟩ := hs
    simp only [All] at ho
    obtain ⟨zv, hzv, hzs⟩ : ∃ zv, inf.zero = some zv ∧ zv.cells.size = inf.size := by
     obtain ⟨zv, h1, h2⟩ := Option.map_eq_some_iff.1 hzero
     exact ⟨zv, h1, h2⟩
    have hbase : w0.base ≤ w.heap.size := h.based
    obtain ⟨v, hv, hdd, us, rfl, k1, k2, k3, k4⟩ := h.sites _ _ hHs
    obtain ⟨v2, hv2, hd2, us2, rfl, q1, q2, q3, q4⟩ := h.sites _ _ hHq
    have hxe : a.eval x = hdd := by
     obtain ⟨⟨us3, h3⟩, _⟩ := hx
     rw [hv] at h3
     have h3 : hdd :: us = a.eval x :: us3 := by simpa using h3
     exact (List.cons.inj h3).1.symm
    have hye : a.eval y = hd2 := by
     obtain ⟨⟨us3, h3⟩, _⟩ := hy
     rw [hv2] at h3
     have h3 : hd2 :: us2 = a.eval y :: us3 := by simpa using h3
     exact (List.cons.inj h3).1.symm
    have hul : us.length = n := by have := k1.1; omega
    have hul2 : us2.length = n2 := by have := q1.1; omega
    have one1 : ∀ u ∈ us, u.oneCell' = true := fun u hu => by obtain ⟨j, hj, rfl⟩ := List.getElem_of_mem hu; exact (k2 j _ (List.getElem?_eq_getElem hj)).1
    have one2 : ∀ u ∈ us2, u.oneCell' = true := fun u hu => by obtain ⟨j, hj, rfl⟩ := List.getElem_of_mem hu; exact (q2 j _ (List.getElem?_eq_getElem hj)).1
    have cross : ∀ b, Own (.tuple (hdd :: us).toArray) b → ¬ Own (.tuple (hd2 :: us2).toArray) b := fun b hb hb2 => hne (h.inj q s _ _ b hv2 hv hb2 hb)
    have own1 : ∀ u ∈ us, ∀ b, Av.blk u = some b → Own (.tuple (hdd :: us).toArray) b := fun u hu b hb => own_tup.2 ⟨u, List.mem_cons_of_mem _ hu, hb⟩
    have own2 : ∀ u ∈ us2, ∀ b, Av.blk u = some b → Own (.tuple (hd2 :: us2).toArray) b := fun u hu b hb => own_tup.2 ⟨u, List.mem_cons_of_mem _ hu, hb⟩
    have own0 : ∀ b, Av.blk hdd = some b → Own (.tuple (hdd :: us).toArray) b := fun b hb => own_tup.2 ⟨hdd, List.mem_cons_self, hb⟩
    have fin : ∀ (v' : Value) (w' : World), (Builtin.append_ #[t, t] o.type #[a.eval x, a.eval y]).run P w = .ok v' w' → v'.oneCell' = true → ORow w' w0.base e2 1 v' (n + n2) (us ++ us2) → Below w0.base w w' →
      (∀ b, b < w.heap.size → Av.blk hdd ≠ some b → w'.heap[b]? = w.heap[b]?) → (∀ b, Av.blk v' = some b → Av.blk hdd = some b ∨ w.heap.size ≤ b) →
      SeqOk P w0 N o (FS.put (S.mv q s false (.nest e2 ei2 (n + n2) (fun j => if j < n then m j else m2 (j - n)) (fun j => if j < n then g j else g2 (j - n)))) o.dst (.t (.c (.hn s)))) a w := by
     intro v' w' hrun h1 hrow hbel hkeep hvb Kk Q hk
     unfold Oper.wp
     have : (execOp a.eval o).run P w = .ok (.value v') w' := by
      simp [execOp, hop, resolve, invoke, builtin, hrun]
     rw [this]
     refine hk _ _ (mvσ σ q s (.tuple (v' :: (us ++ us2)).toArray)) ((h.mv hne hv2 hv (fun hb => by cases hb) hbel (fun b hb hn1 _ => hkeep b hb (fun e => hn1 (own0 b e))) (fun b hb => ?_) ?_).put hd ⟨⟨us ++ us2, mvσ_s⟩, h1⟩)
     ·obtain ⟨u, hu2, hb2⟩ := own_tup.1 hb
      rcases List.mem_cons.1 hu2 with rfl | hu2
      ·rcases hvb b hb2 with e | e
       ·exact .inl (.inl (own0 b e))
       ·exact .inr e
      ·rcases List.mem_append.1 hu2 with hu2 | hu2
       ·exact .inl (.inl (own1 u hu2 b hb2))
       ·exact .inl (.inr (own2 u hu2 b hb2))
     ·have far1 : ∀ u ∈ us, ∀ b, Av.blk u = some b → b < w.heap.size → w'.heap[b]? = w.heap[b]? := fun u hu b hb hlt => hkeep b hlt (k4 u hu b hb)
      have far2 : ∀ u ∈ us2, ∀ b, Av.blk u = some b → b < w.heap.size → w'.heap[b]? = w.heap[b]? := fun u hu b hb hlt => hkeep b hlt (fun e => cross b (own0 b e) (own2 u hu b hb))
      refine ⟨v', us ++ us2, rfl, hrow, fun j u hj => ?_, fun j j' u u' b hj hj' hb hb' => ?_, fun u hu b hb hvb' => ?_⟩
      ·rw [List.getElem?_append] at hj
       split at hj
       ·rename_i hlt
        rw [hul] at hlt
        simp only
        rw [if_pos hlt, if_pos hlt]
        obtain ⟨k5, zs, k6, k7, k8⟩ := k2 j u hj
        exact ⟨k5, zs, k6.far fun b hb => far1 u (List.mem_of_getElem? hj) b hb (k6.blk hb).2, k7, k8⟩
       ·rename_i hge
        rw [hul] at hge hj
        simp only
        rw [if_neg hge, if_neg hge]
        obtain ⟨k5, zs, k6, k7, k8⟩ := q2 (j - n) u hj
        exact ⟨k5, zs, k6.far fun b hb => far2 u (List.mem_of_getElem? hj) b hb (k6.blk hb).2, k7, k8⟩
      ·rw [List.getElem?_append] at hj hj'
       split at hj
       ·split at hj'
        ·exact k3 j j' u u' b hj hj' hb hb'
        ·exact (cross b (own1 u (List.mem_of_getElem? hj) b hb) (own2 u' (List.mem_of_getElem? hj') b hb')).elim
       ·rename_i hge
        split at hj'
        ·exact (cross b (own1 u' (List.mem_of_getElem? hj') b hb') (own2 u (List.mem_of_getElem? hj) b hb)).elim
        ·rename_i hge'
         have := q3 (j - us.length) (j' - us.length) u u' b hj hj' hb hb'
         omega
      ·have hlt : b < w.heap.size := by
        rcases List.mem_append.1 hu with hu | hu
        ·exact (h.live ⟨s, _, hv, own1 u hu b hb⟩).2
        ·exact (h.live ⟨q, _, hv2, own2 u hu b hb⟩).2
       rcases hvb b hvb' with e | e
       ·rcases List.mem_append.1 hu with hu | hu
        ·exact k4 u hu b hb e
        ·exact cross b (own0 b e) (own2 u hu b hb)
       ·omega
    have hdd1 : hdd.oneCell' = true := by rcases k1.2 with ⟨rfl, _⟩ | ⟨_, _, _, rfl, _⟩ <;> rfl
    rcases q1.2 with ⟨rfl, rfl⟩ | ⟨b2, cap2, cur2, rfl, _⟩
    ·have e0 : us2 = [] := List.length_eq_zero_iff.1 hul2
     subst e0
     refine fin hdd w ?_ hdd1 (by simpa using k1) (Below.refl _ _) (fun _ _ _ => rfl) (fun b hb => .inl hb)
     rw [hxe, hye]
     exact run_append_owned_none w w0.base t o.type _ inf 1 hu hinf hdd n us (k1.own hmk)
    ·have hsmall : n + n2 ≤ 140737488355328 := Nat.le_trans (Nat.le_mul_of_pos_right _ hb0) ho
     obtain ⟨v', w', hrun, ho', hgr, _, hown⟩ := run_append_own_at w w0.base t o.type _ inf zv 1 inf.bytes hu hinf hzv hz.symm rfl (by rw [hzs, ← hz]) (by omega) hdd n us (k1.own hmk) ⟨b2, 0, none⟩ n2 cap2 us2 (by omega) (fun j u hj => q1.cells (g := b2) rfl j u hj) one2 (by simp only [maxLen]; omega) (by omega) hbase
     have hblk : ∀ (u : Value), (∃ A n c, u = .slice A n c) → ∀ b, Av.blk u = some b ↔ u.ownBlock = some b := fun u ⟨A, n, c, e⟩ b => by subst e; cases A <;> exact Iff.rfl
     have hvs : ∃ A n c, hdd = .slice A n c := by rcases k1.2 with ⟨rfl, _⟩ | ⟨_, _, _, rfl, _⟩ <;> exact ⟨_, _, _, rfl⟩
     have hvs' : ∃ A n c, v' = .slice A n c := by rcases ho'.2 with ⟨rfl, _⟩ | ⟨_, _, _, rfl, _⟩ <;> exact ⟨_, _, _, rfl⟩
     have hv1' : v'.oneCell' = true := by obtain ⟨_, _, _, rfl⟩ := hvs'; rfl
     refine fin v' w' (by rw [hxe, hye]; exact hrun) hv1' (ORow.of_own ho' hmk) (Below.grown (Below.refl _ _) hgr hbase (fun k hk => (k1.lt k hk).1)) (fun b hb hne => hgr.block b hb (fun e => hne ((hblk hdd hvs b).2 e.symm))) (fun b hb => ?_)
     rw [hblk _ hvs'] at hb
     rw [hblk _ hvs]
     rcases hown with e | e
     ·exact .inl (e ▸ hb)
     ·rw [e] at hb
      cases hb
      exact .inr (Nat.le_refl _)
   ·cases hs
  ·cases hs
 ·cases hs
end Go.Av