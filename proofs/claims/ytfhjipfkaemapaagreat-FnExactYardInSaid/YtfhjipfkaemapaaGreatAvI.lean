/- Stores and appends. -/
import Derived.Test.YtfhjipfkaemapaaGreatAvH
namespace Go.Av
open Go Go.RowKit
set_option linter.unusedVariables false
set_option linter.unusedSimpArgs false
def SeqOk (P : Program) (w0 : Base) (N : Nat) (o : Oper) (S' : FS) (a : Act) (w : World) : Prop :=
 ∀ (Kk : Act → World → Prop) (Q : Exit → Act → World → Prop), (∀ a' w' σ', Rel w0 N S' σ' a' w' → Kk a' w') → o.wp P a w Kk Q
theorem splice_get {α : Type} (l : List α) (o : Nat) (us : List α) (h : o + us.length ≤ l.length) (k : Nat) :
  (splice l o us)[k]? = if o ≤ k ∧ k < o + us.length then us[k - o]? else l[k]? := by
 unfold splice
 by_cases hk : o ≤ k
 ·rw [List.getElem?_append_right (by rw [List.length_take]; omega)]
  have e1 : (l.take o).length = o := by rw [List.length_take]; omega
  rw [e1]
  by_cases hl : k - o < us.length
  ·rw [if_pos (by omega), List.getElem?_append_left hl]
  ·rw [if_neg (by omega), List.getElem?_append_right (by omega), List.getElem?_drop]
   congr 1
   omega
 ·rw [if_neg (by omega), List.getElem?_append_left (by rw [List.length_take]; omega), List.getElem?_take, if_pos (by omega)]
theorem splice_len {α : Type} (l : List α) (o : Nat) (us : List α) (h : o + us.length ≤ l.length) : (splice l o us).length = l.length := by
 unfold splice
 simp only [List.length_append, List.length_take, List.length_drop]
 omega
theorem Rep.weak {base : Nat} {w : World} {σ : Sig} {f f' : Bool} {x : V} {u : Value} (h : Rep w (K base w σ f) x u) (hf : f' = true → f = true) : Rep w (K base w σ f') x u :=
 h.mono (fun _ _ => rfl) (fun b hb => ⟨hb.1, hb.2.1, fun h => hb.2.2 (hf h)⟩)
def evStore (P : Program) (t : TypeId) (av : AV) (xs : List CV) (S : FS) : Option FS :=
 match P.info? t with
 | some i => if xs.length = i.size then match av with
   | .ptr s off => match S.H s with
     | some (.box t' cs) => if off + xs.length ≤ cs.length then some ⟨S.T, upd S.H s (some (.box t' (splice cs off xs)))⟩ else none
     | _ => none
   | .eptr s z j q => match S.H s, pures xs with
     | some (.row e z' n g fr), some (f, vs) => if z = z' ∧ q + vs.length ≤ z then some ⟨S.T, upd S.H s (some (.row e z n (fun j' => if j' = j then splice (g j) q vs else g j') (fr && f)))⟩ else none
     | _, _ => none
   | _ => none
   else none
 | none => none
theorem run_storeCells_open (P : Program) (g o : Nat) (t : TypeId) (fz : Nat × Nat) : ∀ (vs : List Value) (i : Nat) (cur : Array Value) (w : World), w.heap[g]? = some (.cells cur t fz) → (fz.2 = 0 ∨ cur.size ≤ fz.1) → o + i + vs.length ≤ cur.size → (∀ v ∈ vs, v.oneCell' = true) →
  (storeCells ⟨g, o, none⟩ vs i).run P w = .ok () (w.setRow g (cur.toList.take (o + i) ++ vs ++ cur.toList.drop (o + i + vs.length)).toArray)
 | [], i, cur, w, hg, _, _, _ => by
   simp only [storeCells, List.append_nil, List.length_nil, Nat.add_zero, List.take_append_drop, Array.toArray_toList]
   rw [setRow_self w g cur t fz hg]
   rfl
 | v :: rest, i, cur, w, hg, hfz, hl, h1 => by
   have hi : o + i < cur.size := by simp at hl; omega
   have hadd : (⟨g, o, none⟩ : Addr).add i = ⟨g, o + i, none⟩ := by unfold Addr.add; split <;> simp_all
   have hcell : w.cell? ⟨g, o + i, none⟩ = some cur[o + i] := by simp [World.cell?, hg, hi]
   have hfro : w.frozen? ⟨g, o + i, none⟩ = false := by
    obtain ⟨lo, hi'⟩ := fz
    simp only [World.frozen?, hg, Bool.and_eq_false_iff, decide_eq_false_iff_not]
    simp only at hfz
    omega
   have hst : (store ((⟨g, o, none⟩ : Addr).add i) v).run P w = .ok () (w.setRow g (cur.setIfInBounds (o + i) v)) := by
    rw [hadd, run_store P w _ v _ (h1 v (by simp)), hcell]
    simp [hfro, setCell_eq_setRow w g (o + i) cur t fz v hg]
   have ih := run_storeCells_open P g o t fz rest (i + 1) (cur.setIfInBounds (o + i) v) (w.setRow g (cur.setIfInBounds (o + i) v)) (setRow_heap w g cur _ t _ hg) (by simpa using hfz) (by simp at hl ⊢; omega) (fun x hx => h1 x (by simp [hx]))
   simp only [storeCells, Sem.run_bind, hst, Result.andThen_ok, ih, setRow_setRow]
   congr 3
   have e := list_seg_step cur.toList (o + i) v rest (by simp at hl ⊢; omega)
   simpa [Array.toList_setIfInBounds, Nat.add_assoc] using e
theorem run_storeVar {P : Program} {w : World} {t : TypeId} {i : TypeInfo} {g o : Nat} {e : TypeId} {fz : Nat × Nat} {cur : Array Value} {v : Value} (hi : P.info? t = some i) (hg : w.heap[g]? = some (.cells cur e fz)) (hfz : fz.2 = 0 ∨ cur.size ≤ fz.1)
  (hsz : v.cells.toList.length = i.size) (hl : o + v.cells.toList.length ≤ cur.size) (h1 : ∀ u ∈ v.cells.toList, u.oneCell' = true) :
  (storeVar t ⟨g, o, none⟩ v).run P w = .ok () (w.setRow g (splice cur.toList o v.cells.toList).toArray) := by
 have hst := run_storeCells_open P g o e fz v.cells.toList 0 cur w hg hfz (by simpa using hl) h1
 simp only [Nat.add_zero] at hst
 have hsz' : v.cells.size = i.size := by simpa using hsz
 simp only [storeVar, Sem.run_bind, sizeOf, typeInfo, program, Sem.run, hi, pure, Result.andThen_ok]
 rw [if_neg (by simpa using hsz')]
 rw [hst]
 simp [splice]
theorem evStore_ok {P : Program} {w0 : Base} {N : Nat} {o : Oper} {S S' : FS} {σ : Sig} {a : Act} {w : World} {t : TypeId} {x y : Operand} {av : AV} {xs : List CV} (hop : o.op = .store t x y) (hd : o.dst = none)
  (h : Rel w0 N S σ a w) (hx : RepA w0.base w σ av (a.eval x)) (hy : RepCs w0.base w σ xs (a.eval y).cells.toList) (hs : evStore P t av xs S = some S') : SeqOk P w0 N o S' a w := by
 unfold evStore at hs
 split at hs
 ·rename_i i hi
  split at hs
  ·rename_i hlen
   have hlen' : (a.eval y).cells.toList.length = i.size := by rw [← hy.1]; exact hlen
   have fin : ∀ (g o' : Nat) (e : TypeId) (fz : Nat × Nat) (cur : Array Value), (fz.2 = 0 ∨ cur.size ≤ fz.1) → a.eval x = .pointer (some ⟨g, o', none⟩) → w.heap[g]? = some (.cells cur e fz) → o' + xs.length ≤ cur.size →
     (∃ σ', Rel w0 N S' σ' a (w.setRow g (splice cur.toList o' (a.eval y).cells.toList).toArray)) → SeqOk P w0 N o S' a w := by
    intro g o' e fz cur hfz hxe hg hle hrel Kk Q hk
    obtain ⟨σ', hrel⟩ := hrel
    have hrun := run_storeVar (P := P) (w := w) (t := t) hi hg hfz hlen' (by rw [← hy.1]; exact hle) hy.one
    unfold Oper.wp
    have : (execOp a.eval o).run P w = .ok .skip (w.setRow g (splice cur.toList o' (a.eval y).cells.toList).toArray) := by
     simp [execOp, hop, hxe, Instr.storeAt, Instr.sureAddr, hrun]
    rw [this]
    have e1 : a.put o.dst undef = a := by rw [hd]; rfl
    show Kk (a.put o.dst undef) _
    rw [e1]
    exact hk _ _ σ' hrel
   split at hs
   ·rename_i s off
    split at hs
    ·rename_i t' cs hH
     split at hs
     ·rename_i hle
      cases hs
      obtain ⟨b, hsb, hxe⟩ := hx
      obtain ⟨v, hv, b', vs, rfl, h1, h2, h3, h4⟩ := h.sites s _ hH
      rw [hsb] at hv
      simp only [Option.some.injEq, Value.pointer.injEq, Addr.mk.injEq, and_true] at hv
      subst hv
      have hvl : cs.length = vs.size := by have := h4.1; simpa using this
      refine fin b off t' (0, 0) vs (.inl rfl) hxe h2 (by omega) ⟨σ, h.write hsb (Below.trans (Below.refl _ _) ⟨rfl, rfl, rfl, by simp, fun k hk => setRow_other w b k _ (by have := h.below.size; omega)⟩)
       (fun k hk hne => setRow_other w b k _ (fun e => hne (own_of (by simp [blk, e])))) (fun hev => ?_)⟩
      refine ⟨b, _, rfl, h1, setRow_heap w b vs _ t' _ h2, fun u hu => ?_, ?_⟩
      ·have hu : u ∈ splice vs.toList off (a.eval y).cells.toList := by simpa using hu
       unfold splice at hu
       rcases List.mem_append.1 hu with hu | hu
       ·exact h3 u (by simpa using List.mem_of_mem_take hu)
       ·rcases List.mem_append.1 hu with hu | hu
        ·exact hy.one u hu
        ·exact h3 u (by simpa using List.mem_of_mem_drop hu)
      ·have hy' := repCs_new hev (fun _ _ => rfl) hy
       have h4' := repCs_new hev (fun _ _ => rfl) h4
       have : (splice vs.toList off (a.eval y).cells.toList).toArray.toList = splice vs.toList off (a.eval y).cells.toList := by simp
       rw [this]
       unfold splice
       rw [hy.1]
       exact (h4'.take off).append (hy'.append (h4'.drop _))
     ·cases hs
    ·cases hs
   ·rename_i s z j q
    split at hs
    ·rename_i e z' n g fr f vs hH hpu
     split at hs
     ·rename_i hz
      obtain ⟨rfl, hq⟩ := hz
      cases hs
      obtain ⟨hl1, hl2⟩ := pures_rep hpu hy
      obtain ⟨b, n', c, hsb, hj, hxe⟩ := hx
      obtain ⟨v, hv, us, h1, h2, h3, h4⟩ := h.sites s _ hH
      rw [hsb] at hv
      cases hv
      rcases h1 with ⟨h1l, ⟨e0, _⟩ | ⟨b', cap, cur, e0, hb, hheap, hnc, hcm, hcs, htake⟩⟩
      ·cases e0
      simp only [Value.slice.injEq, Option.some.injEq, Addr.mk.injEq, and_true, true_and] at e0
      obtain ⟨rfl, rfl, rfl⟩ := e0
      have hyl : (a.eval y).cells.toList.length = vs.length := hl1.symm
      have hxl : xs.length = vs.length := by rw [hy.1]; exact hyl
      have hjz : j * z + z ≤ n' * z := by rw [← Nat.succ_mul]; exact Nat.mul_le_mul_right _ hj
      have hcap : n' * z ≤ c * z := Nat.mul_le_mul_right _ hnc
      obtain ⟨te, fz, hheap', hfz⟩ := hheap.cells
      refine fin b (j * z + q) te fz cur hfz hxe hheap' (by omega) ⟨σ, h.write hsb ⟨rfl, rfl, rfl, by simp, fun k hk => setRow_other w b k _ (by have := h.below.size; omega)⟩
       (fun k hk hne => setRow_other w b k _ (fun e => hne (own_of (by simp [blk, e])))) (fun hev => ?_)⟩
      have hcl : j * z + q + (a.eval y).cells.toList.length ≤ cur.toList.length := by
       have e1 : cur.toList.length = c * z := by rw [Array.length_toList]; exact hcs
       rw [e1, hyl]
       omega
      have hlen2 : j * z + q + (a.eval y).cells.toList.length ≤ us.length := by rw [h1l, hyl]; omega
      refine ⟨splice us (j * z + q) (a.eval y).cells.toList, ⟨by rw [splice_len _ _ _ hlen2, h1l], .inr ⟨b, c, _, rfl, hb, hheap.setRow ?_, hnc, hcm, ?_, ?_⟩⟩, fun u hu => ?_, fun j' hj' => ?_, fun j' q' y' hj' hy' => ?_⟩
      ·rw [List.size_toArray, splice_len _ _ _ hcl, Array.length_toList]
      ·rw [List.size_toArray, splice_len _ _ _ hcl, Array.length_toList, hcs]
      ·apply List.ext_getElem?
       intro k
       rw [List.getElem?_take, splice_get _ _ _ hlen2, ← htake, List.getElem?_take]
       rw [splice_get _ _ _ hcl]
       by_cases hk : k < n' * z
       ·rw [if_pos hk, if_pos hk]
       ·rw [if_neg hk, if_neg hk, if_neg (by rw [hyl]; omega)]
      ·unfold splice at hu
       rcases List.mem_append.1 hu with hu | hu
       ·exact h2 u (List.mem_of_mem_take hu)
       ·rcases List.mem_append.1 hu with hu | hu
        ·exact hy.one u hu
        ·exact h2 u (List.mem_of_mem_drop hu)
      ·have hgj := h3 j hj
       simp only
       split
       ·rw [splice_len _ _ _ (by rw [hgj]; exact hq), hgj]
       ·exact h3 j' hj'
      ·have lt : j' * z + q' < n' * z := by
        have hq' : q' < z := by
         simp only at hy'
         have h5 := (List.getElem?_eq_some_iff.1 hy').1
         split at h5
         ·rw [splice_len _ _ _ (by rw [h3 j hj]; exact hq), h3 j hj] at h5; exact h5
         ·rw [h3 j' hj'] at h5; exact h5
        have : j' * z + z ≤ n' * z := by rw [← Nat.succ_mul]; exact Nat.mul_le_mul_right _ hj'
        omega
       rw [splice_get _ _ _ hlen2]
       simp only at hy'
       split at hy'
       ·rename_i e
        subst e
        rw [splice_get _ _ _ (by rw [h3 j' hj]; exact hq)] at hy'
        split at hy'
        ·rename_i hin
         rw [if_pos (by rw [hyl]; omega)]
         have hlt : q' - q < (a.eval y).cells.toList.length := by rw [hyl]; omega
         have e2 : j' * z + q' - (j' * z + q) = q' - q := by omega
         rw [e2]
         exact ⟨_, List.getElem?_eq_getElem hlt, hev.rep ((hl2 _ _ _ hy' (List.getElem?_eq_getElem hlt)).weak (by simp))⟩
        ·rename_i hout
         rw [if_neg (by rw [hyl]; omega)]
         obtain ⟨u, hu, hr⟩ := h4 j' q' y' hj hy'
         exact ⟨u, hu, hev.rep (hr.weak (by simp; intro h _; exact h))⟩
       ·rename_i hne
        have hq' : q' < z := by have := (List.getElem?_eq_some_iff.1 hy').1; rw [h3 j' hj'] at this; exact this
        have far : ¬ (j * z + q ≤ j' * z + q' ∧ j' * z + q' < j * z + q + vs.length) := by
         rcases Nat.lt_or_gt_of_ne hne with hlt | hgt
         ·have : j' * z + z ≤ j * z := by rw [← Nat.succ_mul]; exact Nat.mul_le_mul_right _ hlt
          omega
         ·have : j * z + z ≤ j' * z := by rw [← Nat.succ_mul]; exact Nat.mul_le_mul_right _ hgt
          omega
        rw [if_neg (by rw [hyl]; exact far)]
        obtain ⟨u, hu, hr⟩ := h4 j' q' y' hj' hy'
        exact ⟨u, hu, hev.rep (hr.weak (by simp; intro h _; exact h))⟩
     ·cases hs
    ·cases hs
   ·cases hs
  ·cases hs
 ·cases hs
end Go.Av