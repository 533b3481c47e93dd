/- Rows of rows that are marked: what is said of their blocks; element by element. -/
import Derived.Test.YtfinjkjnoobbjaaXFnExactNamesIn
import Derived.Deep.LoopGhost
namespace Go.Proofs.Ytfinjkjnoobbjaa.MyMark
open Go Go.RowKit Go.Proofs.YtfinjkjnoobbjaaW.PrintWords
theorem typ_apart {w : World} {k : Nat} {l l' : List Nat} (h : ∃ q, q ∈ l ∧ ∃ c, w.heap[k]? = some (.cells c q (0, 0))) (h' : ∃ q, q ∈ l' ∧ ∃ c, w.heap[k]? = some (.cells c q (0, 0))) (hd : ∀ q, q ∈ l → ∀ q', q' ∈ l' → q ≠ q') : False := by
  obtain ⟨q, hq, c, hc⟩ := h
  obtain ⟨q', hq', c', hc'⟩ := h'
  rw [hc] at hc'
  injection hc' with e
  injection e with _ e
  exact hd q hq q' hq' e
theorem blk_apart {w : World} {k t : Nat} {l : List Nat} {cs : Array Value} (h : ∃ q, q ∈ l ∧ ∃ c, w.heap[k]? = some (.cells c q (0, 0))) (h' : w.heap[k]? = some (.cells cs t (0, 0))) (hd : ∀ q, q ∈ l → q ≠ t) : False := by
  obtain ⟨q, hq, c, hc⟩ := h
  rw [hc] at h'
  injection h' with e
  injection e with _ e
  exact hd q hq e
/-- A row of elements each of which leads to rows: where it lies; each element's own cells, and what it leads to, told apart by f. -/
theorem S_parts {α : Type} {d : Kd α} {e : Nat} {w : World} {base : Nat} {ok : Nat → Prop} {v : Value} {xs : List α} (h : Kd.S d e w base ok v xs) (hp : 0 < xs.length) :
    ∃ (g cap : Nat) (f : Nat → Nat), v = .slice (some ⟨g, 0, none⟩) xs.length cap ∧ ok g ∧ base ≤ g ∧ g < w.heap.size ∧
      ∀ j (hj : j < xs.length), ∃ c, c.length = d.sz ∧ d.M w base (fun k => ok k ∧ k ≠ g ∧ f k = j) (xs[j]'hj) c ∧ ∀ i u, c[i]? = some u → w.cell? ⟨g, j * d.sz + i, none⟩ = some u ∧ w.frozen? ⟨g, j * d.sz + i, none⟩ = false := by
  obtain ⟨f, h⟩ := h
  obtain ⟨A, cap, rfl⟩ := Kd.R_slice h
  rw [List.length_zipIdx] at h
  cases A with
  | none =>
    exfalso
    obtain ⟨_, inner, ho, _⟩ := h
    rw [List.length_zipIdx] at ho
    rcases ho.2 with ⟨hv, hn⟩ | ⟨g, cap', cur, hv, _⟩
    · injection hv with _ hn' _
      omega
    · injection hv with ha _ _
      cases ha
  | some ad =>
    obtain ⟨g, rfl⟩ := Kd.R_head h
    refine ⟨g, cap, f, by rw [List.length_zipIdx], h.1 g rfl, Kd.R_base h g rfl, Kd.R_lt h g rfl, fun j hj => ?_⟩
    have hz : 0 < xs.zipIdx.length := by rw [List.length_zipIdx]; omega
    obtain ⟨c, hcl, hM, hcc, hfz⟩ := Kd.R_elem h (xs.zipIdx[0]'hz) (j : Int) (by omega) (by omega)
    have hg : xs.zipIdx.getD (Int.toNat (j : Int)) (xs.zipIdx[0]'hz) = (xs[j], j) := by
      simp [List.getD, hj]
    rw [hg] at hM
    refine ⟨c, hcl, d.M_mono (fun k hk => ⟨hk.1.1, hk.1.2, hk.2⟩) hM, fun i u hu => ⟨hcc i u hu, hfz i⟩⟩
theorem kept_cell {w W : World} {S : Nat → Prop} {p : Addr} {v : Value} (hk : Kept w W S) (h : w.cell? p = some v) (hn : ¬ S p.block) : W.cell? p = some v := by
  have hb := hk.2 p.block (World.block_lt_of_cell? w p h) hn
  rw [← h]
  simp only [World.cell?, hb]
theorem R_also {α : Type} {d : Kd α} {e : Nat} {w : World} {base : Nat} {ok : Nat → Prop} {v : Value} {xs : List α} (P : Nat → Prop) (h : d.R e w base ok v xs) (hP : ∀ k, ok k → (∃ q, q ∈ e :: d.E ∧ ∃ c, w.heap[k]? = some (.cells c q (0, 0))) → P k) : d.R e w base (fun k => ok k ∧ P k) v xs :=
  Kd.R_mono (ok' := fun k => ok k ∧ P k) (Kd.R_bound h) (fun k hk => ⟨hk.1, hP k hk.1 hk.2.2.2⟩)
theorem S_also {α : Type} {d : Kd α} {e : Nat} {w : World} {base : Nat} {ok : Nat → Prop} {v : Value} {xs : List α} (P : Nat → Prop) (h : Kd.S d e w base ok v xs) (hP : ∀ k, ok k → (∃ q, q ∈ e :: d.E ∧ ∃ c, w.heap[k]? = some (.cells c q (0, 0))) → P k) : Kd.S d e w base (fun k => ok k ∧ P k) v xs :=
  Kd.S_mono (ok' := fun k => ok k ∧ P k) (Kd.S_bound h) (fun k hk => ⟨hk.1, hP k hk.1 hk.2.2.2⟩)
theorem R_alsoT {α : Type} {d : Kd α} {e : Nat} {w : World} {base : Nat} {ok : Nat → Prop} {v : Value} {xs : List α} (P : Nat → Prop) (hE : d.E = []) (h : d.R e w base ok v xs) (hP : ∀ k, some k = v.ownBlock → ok k → P k) : d.R e w base (fun k => ok k ∧ P k) v xs :=
  Kd.R_mono (ok' := fun k => ok k ∧ P k) (Kd.R_tight2 hE h) (fun k hk => ⟨hk.2, hP k hk.1 hk.2⟩)
theorem R_kept_apart {α : Type} {d : Kd α} {e : Nat} {w W : World} {base : Nat} {ok S : Nat → Prop} {v : Value} {xs : List α} (h : d.R e w base ok v xs) (hk : Kept w W S) (hd : ∀ k, ok k → ¬ S k) : d.R e W base ok v xs :=
  Kd.R_step h (fun k ho hlt => hk.2 k hlt (hd k ho))
theorem S_kept_apart {α : Type} {d : Kd α} {e : Nat} {w W : World} {base : Nat} {ok S : Nat → Prop} {v : Value} {xs : List α} (h : Kd.S d e w base ok v xs) (hk : Kept w W S) (hd : ∀ k, ok k → ¬ S k) : Kd.S d e W base ok v xs :=
  Kd.S_step h (fun k ho hlt => hk.2 k hlt (hd k ho))
theorem blk_kept_lt {w W : World} {S : Nat → Prop} {g n : Nat} {o : Obj} (h : w.heap[g]? = some o) (hk : Kept w W S) (hS : ∀ k, S k → k < n) (hg : n ≤ g) : W.heap[g]? = some o :=
  (hk.2 g (blk_lt h) (fun hs => by have := hS g hs; omega)).trans h
end Go.Proofs.Ytfinjkjnoobbjaa.MyMark
