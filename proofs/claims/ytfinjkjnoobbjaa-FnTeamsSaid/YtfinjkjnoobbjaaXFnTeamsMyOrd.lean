/- Rows of whole numbers that are sorted and compacted in place. -/
import Derived.Test.YtfinjkjnoobbjaaXFnTeams
import Derived.Shelf.Sort.Plain
import Derived.Shelf.Slices.In.SortNone
import Derived.Shelf.Slices.CompactI
import Derived.Lib.RowBridge
import Derived.Shelf.Lay
import Derived.Ground.NamesProg
import Derived.Ground.Names2Prog
namespace Go.Proofs.Ytfinjkjnoobbjaa.MyOrd
open Go.RowKit Go.Proofs.YtfinjkjnoobbjaaW.PrintWords Go.Sort Go.Shelf Go.Lib
/-- Block g holds xs at its front. -/
def RowAt (w : World) (g cap : Nat) (xs : List Int) : Prop :=
  ∃ cur : Array Value, w.heap[g]? = some (.cells cur 3 (0, 0)) ∧ cur.size = cap ∧ xs.length ≤ cap ∧ cur.toList.take xs.length = xs.map (Value.int .i64)
theorem RowAt.holds {w : World} {g cap : Nat} {xs : List Int} (h : RowAt w g cap xs) : Holds (Value.int .i64) w g 0 xs.toArray := by
  obtain ⟨cur, hh, hs, hl, ht⟩ := h
  intro j hj
  have hj' : j < xs.length := by simpa using hj
  have e : cur[j]? = some (.int .i64 xs[j]) := by
    have h1 := congrArg (·[j]?) ht
    simp only [List.getElem?_take, hj', if_true, List.getElem?_map, List.getElem?_eq_getElem hj', Option.map_some] at h1
    simpa using h1
  refine ⟨?_, by simp [World.frozen?, hh]⟩
  rw [Nat.zero_add, cell_of_row w g j cur 3 (0, 0) hh, e]
  simp [hj']
theorem RowAt.lt {w : World} {g cap : Nat} {xs : List Int} (h : RowAt w g cap xs) : g < w.heap.size := by
  obtain ⟨cur, hh, _⟩ := h
  exact blk_lt hh
theorem putCells_take (d : List Int) (c : Array Value) (h : d.length ≤ c.size) : (putCells (Value.int .i64) 0 d.toArray c).toList.take d.length = d.map (Value.int .i64) := by
  apply List.ext_getElem?
  intro j
  by_cases hj : j < d.length
  · have hc : j < c.size := by omega
    rw [List.getElem?_take, if_pos hj, List.getElem?_map, List.getElem?_eq_getElem hj]
    simp [putCells, hc, hj]
  · rw [List.getElem?_eq_none (by simp; omega), List.getElem?_eq_none (by simp; omega)]
theorem RowAt.put {w : World} {g cap : Nat} {xs : List Int} (h : RowAt w g cap xs) (n : Nat) (d : List Int) (hd : d.length ≤ cap) : RowAt (putRow (Value.int .i64) (Sort.ahead w n) g 0 d.toArray) g cap d := by
  obtain ⟨cur, hh, hs, hl, ht⟩ := h
  refine ⟨putCells (Value.int .i64) 0 d.toArray cur, ?_, by simp [putCells, hs], hd, putCells_take d cur (by omega)⟩
  simp [putRow, mapBlock, Array.getElem?_modify, hh, onCells]
theorem RowAt.grow {w : World} {g cap : Nat} {xs : List Int} (h : RowAt w g cap xs) (os : Array Obj) : RowAt (grow w os) g cap xs := by
  have hlt := h.lt
  obtain ⟨cur, hh, r⟩ := h
  exact ⟨cur, (heap_grow_old w os hlt).trans hh, r⟩
theorem RowAt.front {w : World} {g cap : Nat} {xs ys : List Int} (h : RowAt w g cap (xs ++ ys)) : RowAt w g cap xs := by
  obtain ⟨cur, hh, hs, hl, ht⟩ := h
  refine ⟨cur, hh, hs, by simp at hl; omega, ?_⟩
  have := congrArg (List.take xs.length) ht
  rw [List.take_take, List.length_append, Nat.min_eq_left (by omega), List.map_append, List.take_left' (by simp)] at this
  exact this
theorem put_other (w : World) (n g : Nat) (d : Array Int) (i : Nat) (hi : i ≠ g) : (putRow (Value.int .i64) (Sort.ahead w n) g 0 d).heap[i]? = w.heap[i]? := by
  simp [putRow, mapBlock, Array.getElem?_modify, Ne.symm hi]
theorem below_put {w0 w : World} (h : Below w0.heap.size w0 w) (n g : Nat) (d : Array Int) (hg : w0.heap.size ≤ g) : Below w0.heap.size w0 (putRow (Value.int .i64) (Sort.ahead w n) g 0 d) :=
  ⟨h.os, h.tape, h.output, by rw [size_putRow]; exact h.size, fun k hk => (put_other w n g d k (by omega)).trans (h.block k hk)⟩
theorem below_growO {B : Nat} {w0 w : World} (h : Below B w0 w) (hB : B ≤ w.heap.size) (os : Array Obj) : Below B w0 (grow w os) :=
  ⟨h.os, h.tape, h.output, by rw [size_grow]; have := h.size; omega, fun k hk => (heap_grow_old w os (by omega)).trans (h.block k hk)⟩
theorem kept_put {w W : World} {S : Nat → Prop} (h : Kept w W S) (n g : Nat) (d : Array Int) (hg : S g) : Kept w (putRow (Value.int .i64) (Sort.ahead W n) g 0 d) S :=
  ⟨by rw [size_putRow]; exact h.1, fun i hi hS => (put_other W n g d i (fun e => hS (e ▸ hg))).trans (h.2 i hi hS)⟩
theorem kept_growO {w W : World} {S : Nat → Prop} (h : Kept w W S) (os : Array Obj) : Kept w (grow W os) S :=
  ⟨by rw [size_grow]; have := h.1; omega, fun i hi hS => (heap_grow_old W os (by have := h.1; omega)).trans (h.2 i hi hS)⟩
theorem rowAt_of_R {w : World} {base : Nat} {ok : Nat → Prop} {u : Value} {xs : List Int} (h : Kd.R (Kd.int .i64) 3 w base ok u xs) : (u = .slice none 0 0 ∧ xs = []) ∨ ∃ g cap, u = .slice (some ⟨g, 0, none⟩) xs.length cap ∧ base ≤ g ∧ ok g ∧ cap ≤ maxLen ∧ RowAt w g cap xs := by
  have ho := Kd.own_of_R h
  rcases ho.2 with ⟨hu, hn⟩ | ⟨g, cap, cur, hu, hb, hh, hl, hm, hs, ht⟩
  · exact .inl ⟨hu, List.length_eq_zero_iff.1 hn⟩
  · refine .inr ⟨g, cap, hu, hb, h.1 g (by rw [hu]; rfl), hm, cur, hh, by omega, hl, ?_⟩
    simpa [encs] using ht
theorem R_of_rowAt {w : World} {base : Nat} {ok : Nat → Prop} {g cap : Nat} {xs : List Int} (h : RowAt w g cap xs) (hb : base ≤ g) (hok : ok g) (hm : cap ≤ maxLen) : Kd.R (Kd.int .i64) 3 w base ok (.slice (some ⟨g, 0, none⟩) xs.length cap) xs := by
  obtain ⟨cur, hh, hs, hl, ht⟩ := h
  refine Kd.R_of_own ⟨by simp [encs], .inr ⟨g, cap, cur, rfl, hb, hh, hl, hm, by omega, by simpa [encs] using ht⟩⟩ (fun k hk => ?_)
  have : g = k := by simpa [Value.ownBlock] using hk
  exact this ▸ hok
end Go.Proofs.Ytfinjkjnoobbjaa.MyOrd
