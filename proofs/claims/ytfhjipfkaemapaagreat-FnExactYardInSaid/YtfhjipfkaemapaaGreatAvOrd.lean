/- impl.ordered: a row of whole numbers, sorted and compacted in place. -/
import Derived.Test.YtfhjipfkaemapaaGreatProg
import Derived.Test.YtfhjipfkaemapaaGreatAvP
import Derived.Shelf.Sort.Plain
import Derived.Shelf.Slices.In.SortNone
import Derived.Shelf.Slices.CompactI
import Derived.Lib.RowBridge
import Derived.Shelf.Lay
import Derived.Shelf.Abstract
import Derived.Ground.NamesProg
import Derived.Ground.Names2Prog
namespace Go.Proofs.YtfhjipfkaemapaaGreat.AvOrd
open Go Go.RowKit Go.Sort Go.Shelf Go.Lib Go.Av Go.Proofs
set_option linter.unusedVariables false
structure Aside0 (p : Prop) : Prop where
 mk ::
 out : p
theorem blk_lt {w : World} {g : Nat} {o : Obj} (h : w.heap[g]? = some o) : g < w.heap.size := (Array.getElem?_eq_some_iff.1 h).1
def RowAt (w : World) (g cap : Nat) (xs : List Int) : Prop :=
 ∃ cur : Array Value, w.heap[g]? = some (.cells cur 3 (0, 0)) ∧ cur.size = cap ∧ xs.length ≤ cap ∧ cur.toList.take xs.length = xs.map (Value.int .i64)
theorem RowAt.holds {w : World} {g cap : Nat} {xs : List Int} (h : RowAt w g cap xs) : Holds (Value.int .i64) w g 0 xs.toArray := by
 obtain ⟨cur, hh, hs, hl, ht⟩ := h
 intro j hj
 have hj' : j < xs.length := by simpa using hj
 have e : cur[j]? = some (.int .i64 xs[j]) := by
  have h1 := congrArg (·[j]?) ht
  simp only [List.getElem?_take, hj', if_true, List.getElem?_map, List.getElem?_eq_getElem hj', Option.map_some] at h1
  simpa using h1
 refine ⟨?_, by simp [World.frozen?, hh]⟩
 rw [Nat.zero_add, cell_of_row w g j cur 3 (0, 0) hh, e]
 simp [hj']
theorem RowAt.lt {w : World} {g cap : Nat} {xs : List Int} (h : RowAt w g cap xs) : g < w.heap.size := by
 obtain ⟨cur, hh, _⟩ := h
 exact blk_lt hh
theorem putCells_take (d : List Int) (c : Array Value) (h : d.length ≤ c.size) : (putCells (Value.int .i64) 0 d.toArray c).toList.take d.length = d.map (Value.int .i64) := by
 apply List.ext_getElem?
 intro j
 by_cases hj : j < d.length
 ·have hc : j < c.size := by omega
  rw [List.getElem?_take, if_pos hj, List.getElem?_map, List.getElem?_eq_getElem hj]
  simp [putCells, hc, hj]
 ·rw [List.getElem?_eq_none (by simp; omega), List.getElem?_eq_none (by simp; omega)]
theorem RowAt.put {w : World} {g cap : Nat} {xs : List Int} (h : RowAt w g cap xs) (n : Nat) (d : List Int) (hd : d.length ≤ cap) : RowAt (putRow (Value.int .i64) (Sort.ahead w n) g 0 d.toArray) g cap d := by
 obtain ⟨cur, hh, hs, hl, ht⟩ := h
 refine ⟨putCells (Value.int .i64) 0 d.toArray cur, ?_, by simp [putCells, hs], hd, putCells_take d cur (by omega)⟩
 simp [putRow, mapBlock, Array.getElem?_modify, hh, onCells]
theorem RowAt.grow {w : World} {g cap : Nat} {xs : List Int} (h : RowAt w g cap xs) (os : Array Obj) : RowAt (grow w os) g cap xs := by
 have hlt := h.lt
 obtain ⟨cur, hh, r⟩ := h
 exact ⟨cur, (heap_grow_old w os hlt).trans hh, r⟩
theorem RowAt.front {w : World} {g cap : Nat} {xs ys : List Int} (h : RowAt w g cap (xs ++ ys)) : RowAt w g cap xs := by
 obtain ⟨cur, hh, hs, hl, ht⟩ := h
 refine ⟨cur, hh, hs, by simp at hl; omega, ?_⟩
 have := congrArg (List.take xs.length) ht
 rw [List.take_take, List.length_append, Nat.min_eq_left (by omega), List.map_append, List.take_left' (by simp)] at this
 exact this
theorem put_other (w : World) (n g : Nat) (d : Array Int) (i : Nat) (hi : i ≠ g) : (putRow (Value.int .i64) (Sort.ahead w n) g 0 d).heap[i]? = w.heap[i]? := by
 simp [putRow, mapBlock, Array.getElem?_modify, Ne.symm hi]
theorem rowAt_of {w : World} {base : Nat} {u : Value} {xs : List Int} (ho : w.ownsRow base 3 1 u (xs.map (Value.int .i64)).length (xs.map (Value.int .i64))) :
  (u = .slice none 0 0 ∧ xs = []) ∨ ∃ g cap, u = .slice (some ⟨g, 0, none⟩) xs.length cap ∧ base ≤ g ∧ cap ≤ maxLen ∧ RowAt w g cap xs := by
 rcases ho.2 with ⟨hu, hn⟩ | ⟨g, cap, cur, hu, hb, hh, hl, hm, hs, ht⟩
 ·exact .inl ⟨hu, by simpa using hn⟩
 ·rw [List.length_map] at hu hl ht
  exact .inr ⟨g, cap, hu, hb, hm, cur, hh, by omega, hl, by simpa using ht⟩
theorem owns_of {w : World} {base : Nat} {g cap : Nat} {xs : List Int} (h : RowAt w g cap xs) (hb : base ≤ g) (hm : cap ≤ maxLen) :
  w.ownsRow base 3 1 (.slice (some ⟨g, 0, none⟩) xs.length cap) (xs.map (Value.int .i64)).length (xs.map (Value.int .i64)) := by
 obtain ⟨cur, hh, hs, hl, ht⟩ := h
 refine ⟨by simp, .inr ⟨g, cap, cur, by rw [List.length_map], hb, hh, by rw [List.length_map]; exact hl, hm, by omega, by rw [List.length_map]; simpa using ht⟩⟩
def Oth (g : Nat) (w w' : World) : Prop := w.grownBy w' (some g)
theorem oth_put {w W : World} {g : Nat} (h : Oth g w W) (n : Nat) (d : Array Int) : Oth g w (putRow (Value.int .i64) (Sort.ahead W n) g 0 d) :=
 ⟨h.os, h.tape, h.output, by rw [size_putRow]; exact h.size, fun i hi hS => (put_other W n g d i (fun e => hS (by rw [e]))).trans (h.block i hi hS)⟩
theorem oth_grow {w W : World} {g : Nat} (h : Oth g w W) (os : Array Obj) : Oth g w (grow W os) :=
 ⟨h.os, h.tape, h.output, by rw [size_grow]; have := h.size; omega, fun i hi hS => (heap_grow_old W os (by have := h.size; omega)).trans (h.block i hi hS)⟩
theorem oth_refl (g : Nat) (w : World) : Oth g w w := ⟨rfl, rfl, rfl, Nat.le_refl _, fun _ _ _ => rfl⟩
def impl_ordered.f (l0 : List Int) : Option (List Int) := if l0.length < 4611686018427387904 then some (Lib.compact (l0.mergeSort fun x y => decide (x ≤ y))) else none
section
open Go.Shelf
def laysSort_ren : Go.Shelf.Ren := ⟨fun | 189 => 144 | 125 => 151 | 257 => 150 | 128 => 162 | 129 => 163 | 294 => 153 | 295 => 154 | 296 => 155 | 297 => 156 | 298 => 157 | 299 => 158 | 216 => 159 | 300 => 160 | 301 => 161 | 328 => 164 | 329 => 165 | 330 => 166 | 331 => 167 | 332 => 168 | 215 => 169 | 343 => 170 | n => n, fun | 28 => 22 | 3 => 3 | 46 => 139 | 0 => 0 | 51 => 150 | 53 => 152 | 4 => 4 | 183 => 142 | 182 => 141 | 131 => 147 | 5 => 5 | 9 => 9 | 218 => 153 | 222 => 157 | 228 => 159 | 229 => 125 | n => n, fun | n => n⟩
theorem laysSort : Go.Proofs.Lays.n189 Tryz.prog laysSort_ren := {
 mixed := by kernel_rfl
 f125 := Tryz.func151.trans (congrArg some (by kernel_rfl))
 f128 := Tryz.func162.trans (congrArg some (by kernel_rfl))
 f129 := Tryz.func163.trans (congrArg some (by kernel_rfl))
 f189 := Tryz.func144.trans (congrArg some (by kernel_rfl))
 f215 := Tryz.func169.trans (congrArg some (by kernel_rfl))
 f216 := Tryz.func159.trans (congrArg some (by kernel_rfl))
 f257 := Tryz.func150.trans (congrArg some (by kernel_rfl))
 f294 := Tryz.func153.trans (congrArg some (by kernel_rfl))
 f295 := Tryz.func154.trans (congrArg some (by kernel_rfl))
 f296 := Tryz.func155.trans (congrArg some (by kernel_rfl))
 f297 := Tryz.func156.trans (congrArg some (by kernel_rfl))
 f298 := Tryz.func157.trans (congrArg some (by kernel_rfl))
 f299 := Tryz.func158.trans (congrArg some (by kernel_rfl))
 f300 := Tryz.func160.trans (congrArg some (by kernel_rfl))
 f301 := Tryz.func161.trans (congrArg some (by kernel_rfl))
 f328 := Tryz.func164.trans (congrArg some (by kernel_rfl))
 f329 := Tryz.func165.trans (congrArg some (by kernel_rfl))
 f330 := Tryz.func166.trans (congrArg some (by kernel_rfl))
 f331 := Tryz.func167.trans (congrArg some (by kernel_rfl))
 f332 := Tryz.func168.trans (congrArg some (by kernel_rfl))
 f343 := Tryz.func170.trans (congrArg some (by kernel_rfl))
 t0 := Tryz.underlying0
 a0 := Tryz.isAgg0
 z0 := Tryz.sizeOf0
 v0 := Tryz.zeroValue0
 t3 := Tryz.underlying3
 a3 := Tryz.isAgg3
 z3 := Tryz.sizeOf3
 v3 := Tryz.zeroValue3
 t4 := Tryz.underlying4
 a4 := Tryz.isAgg4
 z4 := Tryz.sizeOf4
 v4 := Tryz.zeroValue4
 t5 := Tryz.underlying5
 a5 := Tryz.isAgg5
 z5 := Tryz.sizeOf5
 v5 := Tryz.zeroValue5
 t9 := Tryz.underlying9
 a9 := Tryz.isAgg9
 z9 := Tryz.sizeOf9
 v9 := Tryz.zeroValue9
 t28 := Tryz.underlying22
 a28 := Tryz.isAgg22
 z28 := Tryz.sizeOf22
 v28 := Tryz.zeroValue22
 t46 := Tryz.underlying139
 a46 := Tryz.isAgg139
 z46 := Tryz.sizeOf139
 v46 := Tryz.zeroValue139
 t51 := Tryz.underlying150
 a51 := Tryz.isAgg150
 z51 := Tryz.sizeOf150
 v51 := Tryz.zeroValue150
 t53 := Tryz.underlying152
 a53 := Tryz.isAgg152
 z53 := Tryz.sizeOf152
 v53 := Tryz.zeroValue152
 t131 := Tryz.underlying147
 a131 := Tryz.isAgg147
 z131 := Tryz.sizeOf147
 v131 := Tryz.zeroValue147
 t182 := Tryz.underlying141
 a182 := Tryz.isAgg141
 z182 := Tryz.sizeOf141
 v182 := Tryz.zeroValue141
 t183 := Tryz.underlying142
 a183 := Tryz.isAgg142
 z183 := Tryz.sizeOf142
 v183 := Tryz.zeroValue142
 t218 := Tryz.underlying153
 a218 := Tryz.isAgg153
 z218 := Tryz.sizeOf153
 v218 := Tryz.zeroValue153
 t222 := Tryz.underlying157
 a222 := Tryz.isAgg157
 z222 := Tryz.sizeOf157
 v222 := Tryz.zeroValue157
 t228 := Tryz.underlying159
 a228 := Tryz.isAgg159
 z228 := Tryz.sizeOf159
 v228 := Tryz.zeroValue159
 t229 := Tryz.underlying125
 a229 := Tryz.isAgg125
 z229 := Tryz.sizeOf125
 v229 := Tryz.zeroValue125 }
end
section
open Go.Shelf
def laysCompact_ren : Go.Shelf.Ren := ⟨fun | 20 => 145 | n => n, fun | 22 => 22 | 3 => 3 | 4 => 4 | 0 => 0 | n => n, fun | n => n⟩
theorem laysCompact : Go.Proofs.Lays2.n20 Tryz.prog laysCompact_ren := {
 mixed := by kernel_rfl
 f20 := Tryz.func145.trans (congrArg some (by kernel_rfl))
 t0 := Tryz.underlying0
 a0 := Tryz.isAgg0
 z0 := Tryz.sizeOf0
 v0 := Tryz.zeroValue0
 t3 := Tryz.underlying3
 a3 := Tryz.isAgg3
 z3 := Tryz.sizeOf3
 v3 := Tryz.zeroValue3
 t4 := Tryz.underlying4
 a4 := Tryz.isAgg4
 z4 := Tryz.sizeOf4
 v4 := Tryz.zeroValue4
 t22 := Tryz.underlying22
 a22 := Tryz.isAgg22
 z22 := Tryz.sizeOf22
 v22 := Tryz.zeroValue22
 i3 := by kernel_rfl }
end
set_option maxHeartbeats 4000000 in
theorem impl_ordered.calls (l0 r : List Int) (h : impl_ordered.f l0 = some r) (w : World) (base : Nat) (v : Value) (hB : base ≤ w.heap.size) (ho0 : w.ownsRow base 3 1 v (l0.map (Value.int .i64)).length (l0.map (Value.int .i64))) :
  Calls Tryz.prog 126 #[v] w fun e w' => ∃ v', e = .returned v' ∧ w'.ownsRow base 3 1 v' (r.map (Value.int .i64)).length (r.map (Value.int .i64)) ∧ w.grownBy w' v.ownBlock ∧ ∀ b, v'.ownBlock = some b → v.ownBlock = some b ∨ w.heap.size ≤ b := by
 have hz2 : l0.length < 4611686018427387904 := by
  unfold impl_ordered.f at h
  split at h
  ·assumption
  ·exact absurd h (by simp)
 have h := (if_pos hz2).symm.trans h
 obtain rfl := Option.some.inj h
 rcases rowAt_of ho0 with ⟨rfl, rfl⟩ | ⟨g, cap, rfl, hg, hm, hrow⟩
 ·have hS := Any.slices_Sort_int_none laysSort none 0 w
  have hC := Any.slices_Compact_int_empty laysCompact none 0 w
  change Calls Tryz.prog 144 _ _ _ at hS
  change Calls Tryz.prog 145 _ _ _ at hC
  have HO := Aside0.mk ho0
  clear hB ho0 h
  go_enter Tryz.func126, Tryz.ntmps126
  go_wp2_with (first | (go_at_call 144; refine hS.mono ?_; rintro e w' ⟨rfl, rfl⟩) | (go_at_call 145; refine hC.mono ?_; rintro e w' ⟨rfl, rfl⟩))
  go_ret
  have e0 : Lib.compact (([] : List Int).mergeSort fun x y => decide (x ≤ y)) = [] := by simp [Lib.compact, Lib.compactUpTo]
  rw [e0]
  exact ⟨_, rfl, HO.out, ⟨rfl, rfl, rfl, Nat.le_refl _, fun _ _ _ => rfl⟩, fun b hb => .inl hb⟩
 ·have hS := Any.slices_Sort_int laysSort g 0 cap l0 w hrow.holds hrow.lt hz2
  obtain ⟨s, hs⟩ : ∃ s, s = l0.mergeSort fun x y => decide (x ≤ y) := ⟨_, rfl⟩
  have hsl : s.length = l0.length := by rw [hs, List.length_mergeSort]
  have hlc : l0.length ≤ cap := by obtain ⟨_, _, _, hl, _⟩ := hrow; exact hl
  rw [← hs] at hS ⊢
  have hrow1 : ∀ n os, RowAt (grow (putRow (Value.int .i64) (Sort.ahead w n) g 0 s.toArray) os) g cap s := fun n os => (hrow.put n s (by omega)).grow os
  have hC := fun n os => Any.slices_Compact_int laysCompact g 0 cap s (grow (putRow (Value.int .i64) (Sort.ahead w n) g 0 s.toArray) os) (hrow1 n os).holds (by omega) (by omega)
  have hcl := Lib.compact_length_le s
  change Calls Tryz.prog 144 _ _ _ at hS
  change ∀ n os, Calls Tryz.prog 145 _ _ _ at hC
  rw [← hsl] at hS
  have FIN : Aside0 (∀ n os q, (putRow (Value.int .i64) (Sort.ahead (grow (putRow (Value.int .i64) (Sort.ahead w n) g 0 s.toArray) os) q) g 0 (Lib.compact s ++ List.replicate (s.length - (Lib.compact s).length) 0).toArray).ownsRow base 3 1 (.slice (some ⟨g, 0, none⟩) (Lib.compact s).length cap) ((Lib.compact s).map (Value.int .i64)).length ((Lib.compact s).map (Value.int .i64)) ∧
    Oth g w (putRow (Value.int .i64) (Sort.ahead (grow (putRow (Value.int .i64) (Sort.ahead w n) g 0 s.toArray) os) q) g 0 (Lib.compact s ++ List.replicate (s.length - (Lib.compact s).length) 0).toArray)) :=
   ⟨fun n os q => ⟨owns_of ((hrow1 n os).put q _ (by rw [List.length_append, List.length_replicate]; omega)).front hg hm, oth_put (oth_grow (oth_put (oth_refl g w) n _) os) q _⟩⟩
  clear hrow1 hrow hB ho0 h hs hcl hm hg
  rw [← hsl]
  clear hsl hlc hz2
  have HS := Aside0.mk hS
  have HC := Aside0.mk hC
  clear hS hC
  generalize Lib.compact s = c at HC FIN ⊢
  go_enter Tryz.func126, Tryz.ntmps126
  go_wp2_with (first | (go_at_call 144; refine HS.out.mono ?_; rintro e w1 ⟨rfl, n, os, hw1⟩; have HC1 := Aside0.mk (HC.out n os); have F1 := Aside0.mk (FIN.out n os); rw [← hw1] at HC1 F1; clear hw1 HC FIN HS) | (go_at_call 145; refine HC1.out.mono ?_; rintro e w2 ⟨rfl, q, hw2⟩; have F2 := Aside0.mk (F1.out q); rw [← hw2] at F2; clear hw2 F1 HC1))
  go_ret
  exact ⟨_, rfl, F2.out.1, F2.out.2, fun b hb => .inl hb⟩
theorem impl_ordered.go : Callable Tryz.prog 126 := ⟨_, Tryz.func126, by kernel_rfl, rfl⟩
def impl_ordered.con (l r : List Int) (h : impl_ordered.f l = some r) : MCon Tryz.prog := ⟨126, 3, l.map (.int .i64), r.map (.int .i64), by decide, fun u hu => by obtain ⟨x, _, rfl⟩ := List.mem_map.1 hu; rfl, [], fun w base v us hb ho hx => by
 have h0 := (hx w ⟨rfl, rfl, rfl, Nat.le_refl _, fun _ _ _ => rfl⟩).1
 obtain rfl := List.eq_nil_of_length_eq_zero h0.symm
 exact impl_ordered.calls l r h w base v hb ho, impl_ordered.go⟩
theorem sc_in (l : List Int) : GE l.length (fun j => eI .i64 (l.getD j 0)) (l.map (Value.int .i64)).length (scG (l.map (Value.int .i64))) :=
 GE.of_eq (by simp) fun j hj => by simp [scG, eI, List.getD_eq_getElem?_getD, List.getElem?_map, List.getElem?_eq_getElem hj]
theorem sc_out (l : List Int) : GE (l.map (Value.int .i64)).length (scG (l.map (Value.int .i64))) l.length (fun j => eI .i64 (l.getD j 0)) :=
 GE.of_eq (by simp) fun j hj => by
  have hj : j < l.length := by simpa using hj
  simp [scG, eI, List.getD_eq_getElem?_getD, List.getElem?_map, List.getElem?_eq_getElem hj]
end Go.Proofs.YtfhjipfkaemapaaGreat.AvOrd