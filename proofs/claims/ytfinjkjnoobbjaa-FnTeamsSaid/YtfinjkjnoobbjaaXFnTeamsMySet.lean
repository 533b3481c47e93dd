/- Sets that a call makes: map[int]bool in which true alone is stored. -/
import Derived.Test.YtfinjkjnoobbjaaXFnTeams
import Derived.Maps.Own
import Derived.Maps.OwnOps
import Derived.Maps.OwnSet
import Derived.Maps.Views
namespace Go.Proofs.Ytfinjkjnoobbjaa.MySet
open Go Go.RowKit Go.Maps
/-- Block b is a set of ints (type kt's keys, element type bt bool): x is in it where s has it. -/
def SetAt (P : Program) (kt bt : TypeId) (w : World) (b n : Nat) (s : List Int) : Prop :=
  ∃ D : DataW Unit, w.ownsMap P kt (plainElem P bt) b n D ∧ ∀ x : Int, D.atKey (.int .i64 x) (.lit (.bool false)) = .lit (.bool (s.contains x))
variable {P : Program} {kt bt t : TypeId} {w : World} {b n : Nat} {s : List Int}
theorem SetAt.made (P : Program) (kt bt : TypeId) (w : World) : SetAt P kt bt (w.alloc (.map #[] 0)) w.heap.size 0 [] :=
  ⟨.map [], World.ownsMap_made _ _ _ _, fun _ => rfl⟩
theorem SetAt.lt (h : SetAt P kt bt w b n s) : b < w.heap.size := by
  obtain ⟨D, h, _⟩ := h
  exact h.lt
theorem SetAt.kept {w' : World} {row : Option Nat} (h : SetAt P kt bt w b n s) (hg : w.grownBy w' row) (hne : some b ≠ row) : SetAt P kt bt w' b n s := by
  obtain ⟨D, h, r⟩ := h
  exact ⟨D, h.kept hg hne, r⟩
theorem SetAt.below {w' : World} (h : SetAt P kt bt w b n s) (hb : Below w.heap.size w w') : SetAt P kt bt w' b n s := by
  obtain ⟨D, ⟨es, clock, hh, F, hs, hD⟩, r⟩ := h
  exact ⟨D, ⟨es, clock, (hb.block b (Array.getElem?_eq_some_iff.1 hh).1).trans hh, F, hs, hD⟩, r⟩
theorem SetAt.far {w' : World} (h : SetAt P kt bt w b n s) (hb : w'.heap[b]? = w.heap[b]?) : SetAt P kt bt w' b n s := by
  obtain ⟨D, ⟨es, clock, hh, F, hs, hD⟩, r⟩ := h
  exact ⟨D, ⟨es, clock, hb.trans hh, F, hs, hD⟩, r⟩
/-- The look-up, as an equation. -/
theorem SetAt.look (h : SetAt P kt bt w b n s) (K : Keyed P kt) (ht : P.underlying t = some (.map kt bt)) (hk : P.underlying kt = some (.int .i64)) (he : P.underlying bt = some .bool) (hz : (zeroValue bt).run P w = .ok (.bool false) w) (x : Int) (hx : (Lit.int .i64 x).wf = true) :
    (Instr.lookup t (.map (some b)) (.int .i64 x) false).run P w = .ok (.bool (s.contains x)) w := by
  obtain ⟨D, h, r⟩ := h
  obtain ⟨v, ps, hrun, hv⟩ := h.lookup K ht hz (plainElem_bool he false) (keyOf_int_mk hk hx)
  rw [r x] at hv
  unfold plainElem at hv
  rw [he] at hv
  cases v <;> simp at hv
  obtain ⟨rfl, _⟩ := hv
  rw [hrun]
  simp
/-- true is stored. -/
theorem SetAt.store (h : SetAt P kt bt w b n s) (K : Keyed P kt) (ht : P.underlying t = some (.map kt bt)) (hk : P.underlying kt = some (.int .i64)) (he : P.underlying bt = some .bool) (hn : n < maxLen) (x : Int) (hx : (Lit.int .i64 x).wf = true) :
    ∃ w', (Instr.mapUpdate t (.map (some b)) (.int .i64 x) (.bool true)).run P w = .ok () w' ∧ SetAt P kt bt w' b (n + 1) (x :: s) ∧ w.grownBy w' (some b) := by
  obtain ⟨D, h, r⟩ := h
  have hkey := keyOf_int_mk hk hx
  obtain ⟨w', hrun, h', hg⟩ := h.update K ht hn hkey (plainElem_bool he true)
  refine ⟨w', hrun, ⟨_, h', fun y => ?_⟩, hg⟩
  by_cases e : y = x
  · subst e
    rw [atKey_put_same h.isMap (by simp [WideAt.IsKeyLit])]
    simp
  · rw [atKey_put_other (by intro e2; injection e2 with _ e3; exact e e3), r y]
    simp [e]
/-- The look-up at the operation. -/
theorem wpList_lookup_set (w : World) {ops : Array Oper} {rest : List Oper} {o : Oper} {a : Act} {Q : Exit → Act → World → Prop} (hg : o.guard = none) (m x : Operand) (t : TypeId) (hop : o.op = Op.lookup t m x false)
    {kt bt : TypeId} (K : Keyed P kt) (ht : P.underlying t = some (.map kt bt)) (hk : P.underlying kt = some (.int .i64)) (he : P.underlying bt = some .bool) (hz : (zeroValue bt).run P w = .ok (.bool false) w) (b n : Nat) (s : List Int)
    (hm : a.eval m = .map (some b)) (h : SetAt P kt bt w b n s) (y : Int) (hx : a.eval x = .int .i64 y) (hy : (Lit.int .i64 y).wf = true) (c : Bool) (hc : s.contains y = c)
    (hK : wpList P ops Q rest (a.put o.dst (.bool c)) w) : wpList P ops Q (o :: rest) a w := by
  refine wpList_plain hg fun K' hK' => ?_
  have hrun := h.look K ht hk he hz y hy
  rw [hc] at hrun
  unfold Oper.wp
  simp [execOp, hop, hm, hx, hrun, Result.andThen]
  exact hK' _ _ hK
/-- The store of true at the operation. -/
theorem wpList_store_set (w : World) {ops : Array Oper} {rest : List Oper} {o : Oper} {a : Act} {Q : Exit → Act → World → Prop} (hg : o.guard = none) (m x v : Operand) (t : TypeId) (hop : o.op = Op.mapUpdate t m x v)
    {kt bt : TypeId} (K : Keyed P kt) (ht : P.underlying t = some (.map kt bt)) (hk : P.underlying kt = some (.int .i64)) (he : P.underlying bt = some .bool) (b n : Nat) (s : List Int) (hn : n < maxLen)
    (hm : a.eval m = .map (some b)) (h : SetAt P kt bt w b n s) (y : Int) (hx : a.eval x = .int .i64 y) (hy : (Lit.int .i64 y).wf = true) (hv : a.eval v = .bool true)
    (hK : ∀ w', SetAt P kt bt w' b (n + 1) (y :: s) → w.grownBy w' (some b) → wpList P ops Q rest (a.put o.dst undef) w') : wpList P ops Q (o :: rest) a w := by
  refine wpList_plain hg fun K' hK' => ?_
  obtain ⟨w', hrun, r1, r2⟩ := h.store K ht hk he hn y hy
  unfold Oper.wp
  simp [execOp, hop, hm, hx, hv, hrun, Result.andThen]
  exact hK' _ _ (hK w' r1 r2)
theorem grown_cell {w w1 : World} {row : Option Nat} {p : Addr} {v : Value} (hg : w.grownBy w1 row) (h : w.cell? p = some v) (hne : some p.block ≠ row) : w1.cell? p = some v := by
  have hb := hg.block p.block (World.block_lt_of_cell? w p h) hne
  rw [← h]
  simp only [World.cell?, hb]
open Go.Proofs.YtfinjkjnoobbjaaW.PrintWords in
theorem blk_set4 {W : World} {g : Nat} {t : TypeId} {x y z u a b c d : Value} (h : W.heap[g]? = some (.cells #[x, y, z, u] t (0, 0))) : ((((W.setCell ⟨g, 0, none⟩ a).setCell ⟨g, 1, none⟩ b).setCell ⟨g, 2, none⟩ c).setCell ⟨g, 3, none⟩ d).heap[g]? = some (.cells #[a, b, c, d] t (0, 0)) :=
  blk_set (blk_set (blk_set (blk_set h 0 a) 1 b) 2 c) 3 d
open Go.Proofs.YtfinjkjnoobbjaaW.PrintWords in
theorem below_set4 {w W : World} {g : Nat} {a b c d : Value} (h : Below w.heap.size w W) (hg : w.heap.size ≤ g) : Below w.heap.size w ((((W.setCell ⟨g, 0, none⟩ a).setCell ⟨g, 1, none⟩ b).setCell ⟨g, 2, none⟩ c).setCell ⟨g, 3, none⟩ d) :=
  ws (ws (ws (ws h hg) hg) hg) hg
theorem heap_far4 {W : World} {i g : Nat} {a b c d : Value} (hne : i ≠ g) : ((((W.setCell ⟨g, 0, none⟩ a).setCell ⟨g, 1, none⟩ b).setCell ⟨g, 2, none⟩ c).setCell ⟨g, 3, none⟩ d).heap[i]? = W.heap[i]? := by
  rw [Below.heap_setCell _ _ _ _ (by exact hne), Below.heap_setCell _ _ _ _ (by exact hne), Below.heap_setCell _ _ _ _ (by exact hne), Below.heap_setCell _ _ _ _ (by exact hne)]
theorem size_set4 {W : World} {n g : Nat} {a b c d : Value} (h : n ≤ W.heap.size) : n ≤ ((((W.setCell ⟨g, 0, none⟩ a).setCell ⟨g, 1, none⟩ b).setCell ⟨g, 2, none⟩ c).setCell ⟨g, 3, none⟩ d).heap.size := by
  simpa [World.setCell] using h
end Go.Proofs.Ytfinjkjnoobbjaa.MySet
