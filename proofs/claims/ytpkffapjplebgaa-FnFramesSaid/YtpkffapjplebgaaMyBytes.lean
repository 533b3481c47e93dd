/- Rows of bytes that a call makes out of a string ('[]byte(s)'): appended to, stored into, read back. -/
import Derived.Test.YtpkffapjplebgaaWWords
import Derived.Lib.ConvBytes
import Derived.Lib.AppendStr
import Derived.Lib.FrozenHead
import Derived.Laws.IdiomStrings
import Derived.Below
namespace Go.Proofs.Ytpkffapjplebgaa.MyBytes
open Go Go.Lib Go.RowKit Go.Proofs.YtpkffapjplebgaaW.PrintWords

/-- v is a row of bytes of the call's own that holds xs; its block may bear the mark of a conversion. -/
def Own (B : Nat) (w : World) (v : Value) (xs : List UInt8) : Prop :=
  ∃ g cap cur fz, v = .slice (some ⟨g, 0, none⟩) xs.length cap ∧ B ≤ g ∧ w.heap[g]? = some (.cells cur 5 fz) ∧ (fz.2 = 0 ∨ cur.size ≤ fz.1) ∧ xs.length ≤ cap ∧ cap ≤ maxLen ∧ cur.size = cap ∧ cur.toList.take xs.length = byteCells xs

theorem alloc_old (w : World) (o : Obj) (i : Nat) (h : i < w.heap.size) : (w.alloc o).heap[i]? = w.heap[i]? := by
  show (w.heap.push o)[i]? = w.heap[i]?
  rw [Array.getElem?_push, if_neg (by omega)]

/-- Each block of another type is as it was. -/
def Keeps (w w' : World) : Prop := ∀ (k : Nat) (c : Array Value) (t' : TypeId) (fz : Nat × Nat), w.heap[k]? = some (.cells c t' fz) → t' ≠ 5 → w'.heap[k]? = w.heap[k]?

theorem byteCells_len (xs : List UInt8) : (byteCells xs).length = xs.length := by simp [byteCells]
theorem strCells_eq (s : ByteArray) : strCells s = byteCells s.data.toList := by simp [strCells, byteCells]

theorem Own.below {B : Nat} {w w1 : World} {v : Value} {xs : List UInt8} (h : Own B w v xs) (hb : Below w.heap.size w w1) : Own B w1 v xs := by
  obtain ⟨g, cap, cur, fz, hv, hB, hg, r⟩ := h
  exact ⟨g, cap, cur, fz, hv, hB, by rw [hb.block g (blk_lt hg)]; exact hg, r⟩

theorem Own.drewN {B : Nat} {w : World} {v : Value} {xs : List UInt8} (h : Own B w v xs) (n : Nat) : Own B (w.drewN n) v xs := h

theorem Own.base {B B' : Nat} {w : World} {v : Value} {xs : List UInt8} (h : Own B w v xs) (hb : B' ≤ B) : Own B' w v xs := by
  obtain ⟨g, cap, cur, fz, hv, hB, r⟩ := h
  exact ⟨g, cap, cur, fz, hv, by omega, r⟩

theorem Own.lt {B : Nat} {w : World} {v : Value} {xs : List UInt8} (h : Own B w v xs) : B < w.heap.size := by
  obtain ⟨g, cap, cur, fz, hv, hB, hg, r⟩ := h
  have := blk_lt hg
  omega

theorem run_storeCells_open (P : Program) (g o : Nat) (t : TypeId) (fz : Nat × Nat) : ∀ (vs : List Value) (i : Nat) (cur : Array Value) (w : World), w.heap[g]? = some (.cells cur t fz) → (fz.2 = 0 ∨ cur.size ≤ fz.1) → o + i + vs.length ≤ cur.size → (∀ v ∈ vs, v.oneCell' = true) →
    (storeCells ⟨g, o, none⟩ vs i).run P w = .ok () (w.setRow g (cur.toList.take (o + i) ++ vs ++ cur.toList.drop (o + i + vs.length)).toArray)
  | [], i, cur, w, hg, _, _, _ => by
    simp only [storeCells, List.append_nil, List.length_nil, Nat.add_zero, List.take_append_drop, Array.toArray_toList]
    rw [setRow_self w g cur t fz hg]
    rfl
  | v :: rest, i, cur, w, hg, hfz, hl, h1 => by
    have hi : o + i < cur.size := by simp at hl; omega
    have hadd : (⟨g, o, none⟩ : Addr).add i = ⟨g, o + i, none⟩ := by unfold Addr.add; split <;> simp_all
    have hcell : w.cell? ⟨g, o + i, none⟩ = some cur[o + i] := by simp [World.cell?, hg, hi]
    have hfro : w.frozen? ⟨g, o + i, none⟩ = false := by
      obtain ⟨lo, hi'⟩ := fz
      simp only [World.frozen?, hg, Bool.and_eq_false_iff, decide_eq_false_iff_not]
      simp only at hfz
      omega
    have hst : (store ((⟨g, o, none⟩ : Addr).add i) v).run P w = .ok () (w.setRow g (cur.setIfInBounds (o + i) v)) := by
      rw [hadd, run_store P w _ v _ (h1 v (by simp)), hcell]
      simp [hfro, setCell_eq_setRow w g (o + i) cur t fz v hg]
    have ih := run_storeCells_open P g o t fz rest (i + 1) (cur.setIfInBounds (o + i) v) (w.setRow g (cur.setIfInBounds (o + i) v)) (setRow_heap w g cur _ t _ hg) (by simpa using hfz) (by simp at hl ⊢; omega) (fun x hx => h1 x (by simp [hx]))
    simp only [storeCells, Sem.run_bind, hst, Result.andThen_ok, ih, setRow_setRow]
    congr 3
    have e := list_seg_step cur.toList (o + i) v rest (by simp at hl ⊢; omega)
    simpa [Array.toList_setIfInBounds, Nat.add_assoc] using e

section
variable {P : Program}
/-- 'append(b, s...)'. -/
theorem run_append {w : World} {B : Nat} (t u ty : TypeId) (i : TypeInfo) (ht : P.underlying t = some (.slice 5)) (hu : P.underlying u = some .string) (hi : P.info? 5 = some i) (hz : i.zero = some (.int .u8 0)) (hsize : i.size = 1) (hby : i.bytes = 1)
    {v : Value} {xs : List UInt8} (h : Own B w v xs) (s : ByteArray) (hl : xs.length + s.size ≤ 140737488355328) :
    ∃ v' w', (Builtin.append_ #[t, u] ty #[v, .string s]).run P w = .ok v' w' ∧ Own B w' v' (xs ++ s.data.toList) ∧ Below B w w' ∧ Keeps w w' := by
  have hlt := h.lt
  obtain ⟨g, cap, cur, fz, rfl, hB, hg, hfz, hn, hcm, hcs, ht'⟩ := h
  have hss : s.data.toList.length = s.size := Array.length_toList
  have hlen : (xs ++ s.data.toList).length = xs.length + s.size := by rw [List.length_append, hss]
  have hbc : byteCells (xs ++ s.data.toList) = byteCells xs ++ strCells s := by rw [strCells_eq]; simp [byteCells]
  by_cases hroom : xs.length + s.size ≤ cap
  · have hst := run_storeCells_open P g xs.length 5 fz (strCells s) 0 cur w hg hfz (by rw [strCells_length]; omega) (strCells_oneCell s)
    have hf := run_firstCells_string (P := P) w 1 s
    simp only [Nat.add_zero, strCells_length] at hst
    refine ⟨.slice (some ⟨g, 0, none⟩) (xs.length + s.size) cap, w.setRow g (cur.toList.take xs.length ++ strCells s ++ cur.toList.drop (xs.length + s.size)).toArray, ?_, ?_, ?_, fun k c t' fz' hk ht5 => setRow_other w g k _ (fun e => ht5 (by subst e; rw [hg] at hk; injection hk with e1; injection e1 with _ e2 _; exact e2.symm))⟩
    · simp [Builtin.append_, run_underlying ht, run_underlying hu, sizeOf, typeInfo, hi, hsize, Builtin.lenOf, hroom, hf, Addr.add_lit, hst]
    · refine ⟨g, cap, _, fz, by rw [hlen], hB, setRow_heap w g cur _ 5 _ hg, ?_, by omega, hcm, ?_, ?_⟩
      · have : (cur.toList.take xs.length ++ strCells s ++ cur.toList.drop (xs.length + s.size)).toArray.size = cur.size := by
          simp only [List.size_toArray, List.length_append, List.length_take, List.length_drop, Array.length_toList, strCells_length]
          omega
        rw [this]; exact hfz
      · simp only [List.size_toArray, List.length_append, List.length_take, List.length_drop, Array.length_toList, strCells_length]
        omega
      · rw [ht', hlen, hbc]
        have e : xs.length + s.size = (byteCells xs ++ strCells s).length := by rw [List.length_append, byteCells_len, strCells_length]
        rw [e]
        exact List.take_left
    · exact ⟨rfl, rfl, rfl, by simp, fun k hk => setRow_other w g k _ (by omega)⟩
  · have holds : ∀ j u, (byteCells xs)[j]? = some u → w.cell? ((⟨g, 0, none⟩ : Addr).add j) = some u := by
      intro j u' hj
      have hadd : (⟨g, 0, none⟩ : Addr).add j = ⟨g, j, none⟩ := by unfold Addr.add; split <;> simp_all
      rw [hadd, cell_of_row w g j cur 5 fz hg]
      rw [← ht', List.getElem?_take] at hj
      split at hj
      · simpa using hj
      · cases hj
    have hr := run_append_grow_string (P := P) w t u ty 5 i (.int .u8 0) ht hu hi hz ⟨g, 0, none⟩ xs.length cap (byteCells xs) (by rw [hsize, byteCells_len, Nat.mul_one]) holds s (by omega) (by omega) (by rw [hby]; exact growslice_fits (by omega) (by omega))
    have hge := grownCap_ge w (xs.length + s.size) cap 5
    have hcm2 : grownCap w (xs.length + s.size) cap 5 ≤ maxLen := grownCap_le_maxLen w (xs.length + s.size) cap 5 (by unfold maxLen; omega)
    refine ⟨_, _, hr, ⟨w.heap.size, _, _, (0, 0), by rw [hlen], by omega, heap_alloc_new w.drew _, .inl rfl, by omega, hcm2, ?_, ?_⟩, ⟨rfl, rfl, rfl, by simp, fun k hk => alloc_old w.drew _ k (by show k < w.heap.size; omega)⟩, fun k c t' fz' hk _ => alloc_old w.drew _ k (blk_lt hk)⟩
    · have hz1 : (Value.int IntKind.u8 0).cells.size = 1 := rfl
      simp only [Array.size_append, List.size_toArray, size_zeroCells, hz1, byteCells_len, strCells_length]
      omega
    · rw [hbc, hlen]
      have e : xs.length + s.size = (byteCells xs ++ strCells s).length := by rw [List.length_append, byteCells_len, strCells_length]
      rw [e]
      simp only [Array.toList_append]
      exact List.take_left

/-- 'string(b)'. -/
theorem run_back {w : World} {B : Nat} (t u : TypeId) (ht : P.underlying t = some (.slice 5)) (he : P.underlying 5 = some (.int .u8)) (hu : P.underlying u = some .string) {v : Value} {xs : List UInt8} (h : Own B w v xs) :
    (convert t u v).run P w = .ok (.string ⟨xs.toArray⟩) w := by
  obtain ⟨g, cap, cur, fz, rfl, hB, hg, hfz, hn, hcm, hcs, ht'⟩ := h
  refine run_convert_bytes_back w t u 5 ⟨g, 0, none⟩ cap xs ht he hu (fun j hj => ?_)
  have hadd : (⟨g, 0, none⟩ : Addr).add j = ⟨g, j, none⟩ := by unfold Addr.add; split <;> simp_all
  rw [hadd, cell_of_row w g j cur 5 fz hg]
  have h1 := congrArg (·[j]?) ht'
  simp only [List.getElem?_take, hj, if_true] at h1
  rw [← Array.getElem?_toList, h1]
  simp [byteCells, hj]

/-- '[]byte(s)'. -/
theorem own_conv (w : World) (s : ByteArray) (hs : s.size ≤ maxLen) : Own w.heap.size (bytesWorld w 5 s) (.slice (some ⟨w.heap.size, 0, none⟩) s.size (grownCap w s.size 0 5)) s.data.toList ∧ Below w.heap.size w (bytesWorld w 5 s) := by
  have hss : s.data.toList.length = s.size := Array.length_toList
  have hge := grownCap_ge w s.size 0 5
  have hsz : (bytesCells w 5 s).size = grownCap w s.size 0 5 := by
    simp only [bytesCells, Array.size_append, Array.size_map, Array.size_replicate]
    show s.size + _ = _
    omega
  refine ⟨⟨w.heap.size, _, _, _, by rw [hss], Nat.le_refl _, bytesWorld_at_new w 5 s, .inr (Nat.le_refl _), by rw [hss]; exact hge, grownCap_le_maxLen w s.size 0 5 hs, hsz, ?_⟩, ⟨rfl, rfl, rfl, by rw [bytesWorld_size]; omega, fun k hk => bytesWorld_at_old w 5 s k hk⟩⟩
  simp only [bytesCells, Array.toList_append, Array.toList_map]
  rw [List.take_append_of_le_length (by simp)]
  simp only [byteCells, hss]
  exact List.take_of_length_le (by rw [List.length_map, hss]; exact Nat.le_refl _)

variable {ops : Array Oper} {rest : List Oper} {o : Oper} {a : Act} {Q : Exit → Act → World → Prop}
/-- The conversion, for the walk. -/
theorem conv_event {W : World} (hgd : o.guard = none) {src dst : TypeId} {x : Operand} {s : ByteArray} (ho : o.op = .convert src dst x) (hx : a.eval x = .string s)
    (hs : P.underlying src = some .string) (hd : P.underlying dst = some (.slice 5)) (he : P.underlying 5 = some (.int .u8)) (hl : s.size ≤ maxLen)
    (h : ∀ v w1, Own W.heap.size w1 v s.data.toList → Below W.heap.size W w1 → wpList P ops Q rest (a.put o.dst v) w1) : wpList P ops Q (o :: rest) a W := by
  have hr := Go.Lib.run_convert_string_bytes (P := P) W src dst 5 s hs hd he
  obtain ⟨h1, h2⟩ := own_conv W s hl
  refine Kd.event_run hgd (v := .slice (some ⟨W.heap.size, 0, none⟩) s.size (grownCap W s.size 0 5)) (w1 := bytesWorld W 5 s) ?_ (h _ _ h1 h2)
  unfold execOp
  simp only [ho, hx, Sem.run_bind, hr, Result.andThen_ok, Sem.run_pure]

/-- The conversion back, for the walk. -/
theorem back_event {W : World} {B : Nat} (hgd : o.guard = none) {src dst : TypeId} {x : Operand} {v : Value} {xs : List UInt8} (ho : o.op = .convert src dst x) (hx : a.eval x = v)
    (hs : P.underlying src = some (.slice 5)) (he : P.underlying 5 = some (.int .u8)) (hd : P.underlying dst = some .string) (hown : Own B W v xs)
    (h : wpList P ops Q rest (a.put o.dst (.string ⟨xs.toArray⟩)) W) : wpList P ops Q (o :: rest) a W := by
  have hr := run_back (P := P) src dst hs he hd hown
  refine Kd.event_run hgd (v := .string ⟨xs.toArray⟩) (w1 := W) ?_ h
  unfold execOp
  simp only [ho, hx, Sem.run_bind, hr, Result.andThen_ok, Sem.run_pure]

/-- The append, for the walk. -/
theorem append_event {W : World} {B : Nat} (hgd : o.guard = none) (sl x : Operand) (t u : TypeId) (ho : o.op = .call { callee := .builtin .append, args := #[sl, x], argTypes := #[t, u] })
    (i : TypeInfo) (ht : P.underlying t = some (.slice 5)) (hu : P.underlying u = some .string) (hi : P.info? 5 = some i) (hz : i.zero = some (.int .u8 0)) (hsize : i.size = 1) (hby : i.bytes = 1)
    {v : Value} {xs : List UInt8} (hs : a.eval sl = v) (hown : Own B W v xs) (s : ByteArray) (hx : a.eval x = .string s) (hl : xs.length + s.size ≤ 140737488355328)
    (h : ∀ v' w', Own B w' v' (xs ++ s.data.toList) → Below B W w' → Keeps W w' → wpList P ops Q rest (a.put o.dst v') w') : wpList P ops Q (o :: rest) a W := by
  refine wpList_plain hgd fun K hK => ?_
  obtain ⟨v', w', hr, h2, h3, h4⟩ := run_append (P := P) t u o.type i ht hu hi hz hsize hby hown s hl
  unfold Oper.wp execOp
  simp only [ho, resolve, invoke, builtin, Sem.run_bind, Sem.run_pure, Result.andThen_ok, List.map_toArray, List.map_cons, List.map_nil, hs, hx, hr]
  exact hK _ _ (h v' w' h2 h3 h4)
/-- The append, as one step of a region that draws. -/
theorem append_step {W : World} {B : Nat} {Kc : Act → World → Prop} (hw : Region.wanted o (yielded ops a.tmps) = true) (sl x : Operand) (t u : TypeId) (ho : o.op = .call { callee := .builtin .append, args := #[sl, x], argTypes := #[t, u] })
    (i : TypeInfo) (ht : P.underlying t = some (.slice 5)) (hu : P.underlying u = some .string) (hi : P.info? 5 = some i) (hz : i.zero = some (.int .u8 0)) (hsize : i.size = 1) (hby : i.bytes = 1)
    {v : Value} {xs : List UInt8} (hs : a.eval sl = v) (hown : Own B W v xs) (s : ByteArray) (hx : a.eval x = .string s) (hl : xs.length + s.size ≤ 140737488355328)
    (h : ∀ v' w', Own B w' v' (xs ++ s.data.toList) → Below B W w' → Keeps W w' → Kc (a.put o.dst v') w') : if Region.wanted o (yielded ops a.tmps) = true then Oper.wp P o a W Kc Q else Kc (a.put o.dst undef) W := by
  obtain ⟨v', w', hr, h2, h3, h4⟩ := run_append (P := P) t u o.type i ht hu hi hz hsize hby hown s hl
  refine event_step hw (v := v') (w1 := w') ?_ (h v' w' h2 h3 h4)
  unfold execOp
  simp only [ho, resolve, invoke, builtin, Sem.run_bind, Sem.run_pure, Result.andThen_ok, List.map_toArray, List.map_cons, List.map_nil, hs, hx, hr]
end
end Go.Proofs.Ytpkffapjplebgaa.MyBytes
