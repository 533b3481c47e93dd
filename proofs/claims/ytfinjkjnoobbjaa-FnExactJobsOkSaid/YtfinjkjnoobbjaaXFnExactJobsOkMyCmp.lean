/- Functions that take a comparison: what is asked of it; which element is the least. -/
import Derived.Test.YtfinjkjnoobbjaaXFnExactJobsOkMyHof
import Derived.Shelf.Abstract
import Derived.Shelf.SlSortCmp.QuietGrown
namespace Go.Proofs.Ytfinjkjnoobbjaa.MyHof
open Go.RowKit Go.Proofs.YtfinjkjnoobbjaaW.PrintWords Go.Sort
def cmpI (a b : Int) : Int := if a < b then -1 else if a > b then 1 else 0
def CmpG {α : Type} (P : Program) (g : Nat) (lb : Array Value) (enc : α → Value) (key : α → Int) (w : World) : Prop :=
  ∀ (W : World) (x y : α), Below w.heap.size w W → Calls P g (#[enc x, enc y] ++ lb) W fun e w' => e = .returned (.int .i64 (cmpI (key x) (key y))) ∧ ∃ q os', w' = grow (W.drewN q) os'
def leastBy {α : Type} (key : α → Int) (z : α) : List α → α
  | [] => z
  | x :: t => t.foldl (fun m y => if key y < key m then y else m) x
theorem leastBy_snoc {α : Type} (key : α → Int) (z : α) (l : List α) (y : α) (h : l ≠ []) : leastBy key z (l ++ [y]) = if key y < key (leastBy key z l) then y else leastBy key z l := by
  cases l with
  | nil => exact absurd rfl h
  | cons x t =>
    show (t ++ [y]).foldl _ x = _
    rw [List.foldl_append]
    rfl
theorem below_growN (W : World) (n : Nat) (os : Array Obj) : Below W.heap.size W (grow (W.drewN n) os) :=
  ⟨rfl, rfl, rfl, by simp [grow], fun k hk => by rw [heap_grow_old _ _ (by exact hk)]; rfl⟩
theorem blk_set3 {W : World} {g : Nat} {t : TypeId} {x y z a b c : Value} (h : W.heap[g]? = some (.cells #[x, y, z] t (0, 0))) : (((W.setCell ⟨g, 0, none⟩ a).setCell ⟨g, 1, none⟩ b).setCell ⟨g, 2, none⟩ c).heap[g]? = some (.cells #[a, b, c] t (0, 0)) :=
  blk_set (blk_set (blk_set h 0 a) 1 b) 2 c
theorem blk_far3 {W : World} {g g' : Nat} {t : TypeId} {cs : Array Value} {a b c : Value} (h : W.heap[g]? = some (.cells cs t (0, 0))) (hne : g ≠ g') : (((W.setCell ⟨g', 0, none⟩ a).setCell ⟨g', 1, none⟩ b).setCell ⟨g', 2, none⟩ c).heap[g]? = some (.cells cs t (0, 0)) :=
  blk_far (blk_far (blk_far h (by exact hne) a) (by exact hne) b) (by exact hne) c
theorem below_set3 {w W : World} {g : Nat} {a b c : Value} (h : Below w.heap.size w W) (hg : w.heap.size ≤ g) : Below w.heap.size w (((W.setCell ⟨g, 0, none⟩ a).setCell ⟨g, 1, none⟩ b).setCell ⟨g, 2, none⟩ c) :=
  ws (ws (ws h hg) hg) hg
end Go.Proofs.Ytfinjkjnoobbjaa.MyHof
