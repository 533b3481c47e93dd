/- Operations that read, reckon and make: evOp. -/
import Derived.Test.YtfhjipfkaemapaaGreatAvD
import Derived.Great.FillDense
namespace Go.Av
open Go Go.RowKit
set_option linter.unusedVariables false
set_option linter.unusedSimpArgs false
def splice {α : Type} (cells : List α) (off : Nat) (xs : List α) : List α := cells.take off ++ (xs ++ cells.drop (off + xs.length))
def fillC (place : Nat → Option (Nat × Nat)) (cells : List CV) : List (Nat × List CV) → Option (List CV)
 | [] => some cells
 | (i, xs) :: rest => match place i with
   | none => none
   | some (off, size) => if xs.length ≠ size ∨ cells.length < off + xs.length then none else fillC place (splice cells off xs) rest
theorem fillC_len (place : Nat → Option (Nat × Nat)) : ∀ (ps : List (Nat × List CV)) (cs r : List CV), fillC place cs ps = some r → r.length = cs.length
 | [], cs, r, h => by simp only [fillC, Option.some.injEq] at h; rw [h]
 | (i, xs) :: ps, cs, r, h => by
   simp only [fillC] at h
   split at h
   ·cases h
   ·split at h
    ·cases h
    ·rename_i off size _ hc
     have := fillC_len place ps _ r h
     rw [this]
     simp only [not_or, Nat.not_lt] at hc
     unfold splice
     simp only [List.length_append, List.length_take, List.length_drop]
     omega
section
variable {P : Program} {base : Nat} {w : World} {σ : Sig}
theorem foldl_splice (off : Nat) (l : List Value) (cs : Array Value) (h : off + l.length ≤ cs.size) :
  ((l.zipIdx 0).foldl (fun cs (x : Value × Nat) => cs.setIfInBounds (off + x.2) x.1) cs).toList = cs.toList.take off ++ (l ++ cs.toList.drop (off + l.length)) := by
 obtain ⟨h1, h2⟩ := Go.Great.foldl_set off l 0 cs
 apply List.ext_getElem?
 intro k
 rw [Array.getElem?_toList, h2 k]
 by_cases hk : off ≤ k
 ·rw [List.getElem?_append_right (by rw [List.length_take, Array.length_toList]; omega)]
  have e1 : (cs.toList.take off).length = off := by rw [List.length_take, Array.length_toList]; omega
  rw [e1]
  by_cases hl : k - off < l.length
  ·rw [if_pos (by omega), List.getElem?_append_left hl]
   simp
  ·rw [if_neg (by omega), List.getElem?_append_right (by omega), List.getElem?_drop, Array.getElem?_toList]
   congr 1
   omega
 ·rw [if_neg (by omega), List.getElem?_append_left (by rw [List.length_take, Array.length_toList]; omega), List.getElem?_take, if_pos (by omega), Array.getElem?_toList]
theorem fill_ok (place : Nat → Option (Nat × Nat)) : ∀ (ps : List (Nat × List CV)) (parts : List (Nat × Value)) (cs r : List CV) (cells : Array Value), RepCs base w σ cs cells.toList →
  ps.length = parts.length → (∀ (i : Nat) p q, ps[i]? = some p → parts[i]? = some q → p.1 = q.1 ∧ RepCs base w σ p.2 q.2.cells.toList) → fillC place cs ps = some r →
  ∃ out, Instr.fill place cells parts = some out ∧ RepCs base w σ r out.toList
 | [], [], cs, r, cells, hr, _, _, h => by
   simp only [fillC, Option.some.injEq] at h
   subst h
   exact ⟨cells, rfl, hr⟩
 | [], _ :: _, _, _, _, _, hl, _, _ => by simp at hl
 | _ :: _, [], _, _, _, _, hl, _, _ => by simp at hl
 | (i, xs) :: ps, (i', v) :: parts, cs, r, cells, hr, hl, hp, h => by
   obtain ⟨rfl, hx⟩ := hp 0 (i, xs) (i', v) rfl rfl
   simp only [fillC] at h
   unfold Instr.fill
   cases hpl : place i with
   | none => rw [hpl] at h; cases h
   | some os =>
     obtain ⟨off, size⟩ := os
     rw [hpl] at h
     simp only at h ⊢
     split at h
     ·cases h
     ·rename_i hc
      have hxl : xs.length = v.cells.size := by have := hx.1; simpa using this
      have hcl : cs.length = cells.size := by have := hr.1; simpa using this
      have hbad : ¬ (v.cells.size ≠ size ∨ off + v.cells.size > cells.size) := by
       simp only [not_or, Decidable.not_not, Nat.not_lt] at hc ⊢
       omega
      rw [if_neg (by simpa using hbad)]
      refine fill_ok place ps parts (splice cs off xs) r _ ?_ (by simpa using hl) (fun j p q hj hj' => hp (j + 1) p q (by simpa using hj) (by simpa using hj')) h
      have e : (v.cells.zipIdx.foldl (fun cs (x : Value × Nat) => cs.setIfInBounds (off + x.2) x.1) cells).toList = cells.toList.take off ++ (v.cells.toList ++ cells.toList.drop (off + v.cells.toList.length)) := by
       rw [← Array.foldl_toList, Array.toList_zipIdx]
       exact foldl_splice off v.cells.toList cells (by simp only [not_or, Nat.not_lt] at hbad; simp; omega)
      have e2 : (v.cells.zipIdx.foldl (fun cs (x : Value × Nat) => match x with | (c, j) => cs.setIfInBounds (off + j) c) cells) = v.cells.zipIdx.foldl (fun cs (x : Value × Nat) => cs.setIfInBounds (off + x.2) x.1) cells := rfl
      rw [e2, e]
      unfold splice
      rw [hx.1]
      exact (hr.take off).append (hx.append (hr.drop _))
end
def isSc : V → Bool
 | .sc _ => true
 | _ => false
def pures : List CV → Option (Bool × List V)
 | [] => some (true, [])
 | .p fr x :: rest => match pures rest with
   | some (f, xs) => some ((fr || isSc x) && f, x :: xs)
   | none => none
 | _ :: _ => none
theorem pures_rep {base : Nat} {w : World} {σ : Sig} : ∀ {cs : List CV} {fr : Bool} {xs : List V} {us : List Value}, pures cs = some (fr, xs) → RepCs base w σ cs us →
  xs.length = us.length ∧ ∀ (i : Nat) x u, xs[i]? = some x → us[i]? = some u → Rep w (K base w σ fr) x u
 | [], fr, xs, us, h, hr => by
   simp only [pures, Option.some.injEq, Prod.mk.injEq] at h
   obtain ⟨rfl, rfl⟩ := h
   exact ⟨hr.1, fun i x u hx => by simp at hx⟩
 | c :: cs, fr, xs, [], h, hr => by have := hr.1; simp at this
 | .any :: cs, fr, xs, u :: us, h, hr => by simp [pures] at h
 | .h s :: cs, fr, xs, u :: us, h, hr => by simp [pures] at h
 | .hn s :: cs, fr, xs, u :: us, h, hr => by simp [pures] at h
 | .hv s x :: cs, fr, xs, u :: us, h, hr => by simp [pures] at h
 | .p f x :: cs, fr, xs, u :: us, h, hr => by
   simp only [pures] at h
   cases hp : pures cs with
   | none => rw [hp] at h; cases h
   | some fx =>
     obtain ⟨f', xs'⟩ := fx
     rw [hp] at h
     simp only [Option.some.injEq, Prod.mk.injEq] at h
     obtain ⟨rfl, rfl⟩ := h
     have hr' : RepCs base w σ cs us := ⟨by have := hr.1; simpa using this, fun i c v hc hv => hr.2 (i + 1) c v (by simpa using hc) (by simpa using hv)⟩
     obtain ⟨h1, h2⟩ := pures_rep hp hr'
     have hx : Rep w (K base w σ f) x u := hr.2 0 (.p f x) u rfl rfl
     refine ⟨by simp [h1], fun i y v hy hv => ?_⟩
     cases i with
     | zero =>
       simp at hy hv
       subst hy
       subst hv
       cases x with
       | sc v' => cases hx with | sc v' h1 => exact .sc _ h1
       | _ => exact hx.mono (fun _ _ => rfl) (fun b hb => ⟨hb.1, hb.2.1, fun hf => hb.2.2 (by simp [isSc] at hf; exact hf.1)⟩)
     | succ i => exact (h2 i y v (by simpa using hy) (by simpa using hv)).mono (fun _ _ => rfl) (fun b hb => ⟨hb.1, hb.2.1, fun hf => hb.2.2 (by simp at hf; exact hf.2)⟩)
def EffOk (P : Program) (base : Nat) (o : Oper) (E : Eff) (σ : Sig) (a : Act) (w : World) : Prop :=
 ∀ (Kk : Act → World → Prop) (Q : Exit → Act → World → Prop), (∀ v w' σ', Grow base σ σ' w w' E.news → RepA base w' σ' E.av v → Kk (a.put o.dst v) w') → o.wp P a w Kk Q
theorem EffOk.value {P : Program} {base : Nat} {o : Oper} {E : Eff} {σ σ' : Sig} {a : Act} {w w' : World} {v : Value} (h : (execOp a.eval o).run P w = .ok (.value v) w')
  (hg : Grow base σ σ' w w' E.news) (hr : RepA base w' σ' E.av v) : EffOk P base o E σ a w := fun Kk Q hk => by
 unfold Oper.wp
 rw [h]
 exact hk v w' σ' hg hr
theorem EffOk.still {P : Program} {base : Nat} {o : Oper} {av : AV} {σ : Sig} {a : Act} {w : World} {v : Value} (h : (execOp a.eval o).run P w = .ok (.value v) w)
  (hr : RepA base w σ av v) : EffOk P base o ⟨av, []⟩ σ a w := EffOk.value h (Grow.none (Below.refl _ _)) hr
theorem evo_new {σ : Sig} {w : World} {s : Nat} {hv : Value} (o : Obj) (hb : ∀ b, Own hv b → b = w.heap.size) : Evo σ (upd σ s (some hv)) w (w.alloc o) := by
 refine ⟨by simp, fun b hb _ => heap_alloc_old w o b hb, fun b hlt ⟨s', v, hs, hv'⟩ => ?_⟩
 simp only [upd] at hs
 split at hs
 ·cases hs
  have := hb b hv'
  omega
 ·exact ⟨s', v, hs, hv'⟩
theorem grow_new {base : Nat} {σ : Sig} {w : World} {s : Nat} {hv : Value} {c : Content} (o : Obj) (hb : ∀ b, Own hv b → b = w.heap.size)
  (hc : SiteOk base (w.alloc o) (upd σ s (some hv)) hv c) : Grow base σ (upd σ s (some hv)) w (w.alloc o) [(s, c)] := by
 refine ⟨⟨rfl, rfl, rfl, by simp, fun k hk => heap_alloc_old w o k hk⟩, fun s' hs' => ?_, fun s' c' hs' => ?_, fun s1 s2 v v' b h1 h2 _ _ _ _ => ?_⟩
 ·simp only [List.lookup_cons, List.lookup_nil] at hs'
  simp only [upd]
  rw [if_neg]
  intro e
  subst e
  simp at hs'
 ·simp only [List.lookup_cons, List.lookup_nil] at hs'
  split at hs'
  ·rename_i he
   have he : s' = s := by simpa using he
   subst he
   cases hs'
   exact ⟨hv, by simp [upd], hc, fun b h => by rw [hb b h]; exact Nat.le_refl _⟩
  ·cases hs'
 ·have e : ∀ x, List.lookup x [(s, c)] ≠ none → x = s := fun x hx => by
   simp only [List.lookup_cons, List.lookup_nil] at hx
   split at hx
   ·rename_i he; simpa using he
   ·exact absurd rfl hx
  rw [e s1 h1, e s2 h2]
theorem grow_newG {base : Nat} {σ : Sig} {w w' : World} {s : Nat} {hv : Value} {c : Content} (hbel : Below w.heap.size w w') (hb : ∀ b, Own hv b → b = w.heap.size)
  (hc : SiteOk base w' (upd σ s (some hv)) hv c) : Grow base σ (upd σ s (some hv)) w w' [(s, c)] := by
 refine ⟨hbel, fun s' hs' => ?_, fun s' c' hs' => ?_, fun s1 s2 v v' b h1 h2 _ _ _ _ => ?_⟩
 ·simp only [List.lookup_cons, List.lookup_nil] at hs'
  simp only [upd]
  rw [if_neg]
  intro e
  subst e
  simp at hs'
 ·simp only [List.lookup_cons, List.lookup_nil] at hs'
  split at hs'
  ·rename_i he
   have he : s' = s := by simpa using he
   subst he
   cases hs'
   exact ⟨hv, by simp [upd], hc, fun b h => by rw [hb b h]; exact Nat.le_refl _⟩
  ·cases hs'
 ·have e : ∀ x, List.lookup x [(s, c)] ≠ none → x = s := fun x hx => by
   simp only [List.lookup_cons, List.lookup_nil] at hx
   split at hx
   ·rename_i he; simpa using he
   ·exact absurd rfl hx
  rw [e s1 h1, e s2 h2]
theorem repCs_new {base : Nat} {σ σ' : Sig} {w w' : World} {cs : List CV} {us : List Value} (he : Evo σ σ' w w') (hs : ∀ s, σ s ≠ none → σ' s = σ s) (h : RepCs base w σ cs us) : RepCs base w' σ' cs us :=
 ⟨h.1, fun i c v hc hv => he.repC (fun s e => hs s ((h.2 i c v hc hv).known s e)) (h.2 i c v hc hv)⟩
theorem upd_same {σ : Sig} {s : Nat} {v : Value} (hf : σ s = none) : ∀ s', σ s' ≠ none → upd σ s (some v) s' = σ s' := fun s' h => by
 simp only [upd]
 rw [if_neg]
 intro e
 subst e
 exact h hf
theorem new_box {P : Program} {base : Nat} {o : Oper} {σ : Sig} {a : Act} {w : World} {s : Nat} {t : TypeId} {cs : List CV} {vs : Array Value} (hbase : base ≤ w.heap.size) (hf : σ s = none)
  (h : (execOp a.eval o).run P w = .ok (.value (.pointer (some ⟨w.heap.size, 0, none⟩))) (w.alloc (.cells vs t))) (hc : RepCs base w σ cs vs.toList) : EffOk P base o ⟨.ptr s 0, [(s, .box t cs)]⟩ σ a w := by
 refine EffOk.value (σ' := upd σ s (some (.pointer (some ⟨w.heap.size, 0, none⟩)))) h (grow_new _ (fun b hb => by first | exact own_p hb | exact own_s hb | exact own_m hb) ⟨w.heap.size, vs, rfl, hbase, heap_alloc_new w _, fun u hu => hc.one u (by simpa using hu), ?_⟩)
  ⟨w.heap.size, by simp [upd], rfl⟩
 exact repCs_new (evo_new _ (fun b hb => by first | exact own_p hb | exact own_s hb | exact own_m hb)) (upd_same hf) hc
def chunk (z : Nat) (xs : List V) (j : Nat) : List V := (xs.drop (j * z)).take z
theorem new_row {P : Program} {base : Nat} {o : Oper} {σ : Sig} {a : Act} {w : World} {s e z n : Nat} {fr : Bool} {g : Nat → List V} {vs : Array Value} (he : e < MK) (hbase : base ≤ w.heap.size) (hf : σ s = none)
  (h : (execOp a.eval o).run P w = .ok (.value (.slice (some ⟨w.heap.size, 0, none⟩) n n)) (w.alloc (.cells vs e))) (hn : n ≤ maxLen) (hz : vs.size = n * z) (h1 : ∀ u ∈ vs, u.oneCell' = true)
  (hl : ∀ j, j < n → (g j).length = z) (hg : ∀ (j q : Nat) x, j < n → (g j)[q]? = some x → ∃ u, vs[j * z + q]? = some u ∧ Rep w (K base w σ fr) x u) : EffOk P base o ⟨.t (.c (.h s)), [(s, .row e z n g fr)]⟩ σ a w := by
 have hev := evo_new (σ := σ) (w := w) (s := s) (hv := .slice (some ⟨w.heap.size, 0, none⟩) n n) (.cells vs e) (fun b hb => by first | exact own_p hb | exact own_s hb | exact own_m hb)
 refine EffOk.value (σ' := upd σ s (some (.slice (some ⟨w.heap.size, 0, none⟩) n n))) h (grow_new _ (fun b hb => by first | exact own_p hb | exact own_s hb | exact own_m hb) ⟨vs.toList, ORow.of_own (World.ownsRow_lit w vs n hbase hn hz) he, fun u hu => h1 u (by simpa using hu), hl, fun j q x hj hx => ?_⟩) ⟨by simp [upd], rfl⟩
 obtain ⟨u, hu, hr⟩ := hg j q x hj hx
 exact ⟨u, by simpa using hu, hev.rep hr⟩
theorem chunk_rep {base : Nat} {w : World} {σ : Sig} {fr : Bool} {xs : List V} {us : List Value} {z n : Nat} (hl : xs.length = us.length) (hn : us.length = n * z)
  (h : ∀ (i : Nat) x u, xs[i]? = some x → us[i]? = some u → Rep w (K base w σ fr) x u) :
  (∀ j, j < n → (chunk z xs j).length = z) ∧ ∀ (j q : Nat) x, j < n → (chunk z xs j)[q]? = some x → ∃ u, us[j * z + q]? = some u ∧ Rep w (K base w σ fr) x u := by
 have hb : ∀ j, j < n → j * z + z ≤ us.length := fun j hj => by
  rw [hn, ← Nat.succ_mul]
  exact Nat.mul_le_mul_right _ hj
 refine ⟨fun j hj => ?_, fun j q x hj hx => ?_⟩
 ·have := hb j hj
  unfold chunk
  rw [List.length_take, List.length_drop]
  omega
 ·unfold chunk at hx
  rw [List.getElem?_take] at hx
  split at hx
  ·rename_i hq
   rw [List.getElem?_drop] at hx
   have := hb j hj
   have hlt : j * z + q < us.length := by omega
   exact ⟨us[j * z + q], List.getElem?_eq_getElem hlt, h _ x _ hx (List.getElem?_eq_getElem hlt)⟩
  ·cases hx
end Go.Av