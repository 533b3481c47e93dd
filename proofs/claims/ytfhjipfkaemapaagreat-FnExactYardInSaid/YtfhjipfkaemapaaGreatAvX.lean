/- Sets that a call makes: map[int]bool in which true alone is stored. -/
import Derived.Below
import Derived.Maps.Own
import Derived.Maps.OwnOps
import Derived.Maps.OwnSet
import Derived.Maps.Views
import Derived.Maps.Keyed
namespace Go.Av
open Go Go.RowKit Go.Maps
set_option linter.unusedVariables false
def SetAt (P : Program) (kt bt : TypeId) (w : World) (b n : Nat) (s : List Int) : Prop :=
 ∃ D : DataW Unit, w.ownsMap P kt (plainElem P bt) b n D ∧ ∀ x : Int, D.atKey (.int .i64 x) (.lit (.bool false)) = .lit (.bool (s.contains x))
variable {P : Program} {kt bt t : TypeId} {w : World} {b n : Nat} {s : List Int}
theorem SetAt.made (P : Program) (kt bt : TypeId) (w : World) : SetAt P kt bt (w.alloc (.map #[] 0)) w.heap.size 0 [] :=
 ⟨.map [], World.ownsMap_made _ _ _ _, fun _ => rfl⟩
theorem SetAt.lt (h : SetAt P kt bt w b n s) : b < w.heap.size := by
 obtain ⟨D, h, _⟩ := h
 exact h.lt
theorem SetAt.far {w' : World} (h : SetAt P kt bt w b n s) (hb : w'.heap[b]? = w.heap[b]?) : SetAt P kt bt w' b n s := by
 obtain ⟨D, ⟨es, clock, hh, F, hs, hD⟩, r⟩ := h
 exact ⟨D, ⟨es, clock, hb.trans hh, F, hs, hD⟩, r⟩
theorem SetAt.look (h : SetAt P kt bt w b n s) (K : Keyed P kt) (ht : P.underlying t = some (.map kt bt)) (hk : P.underlying kt = some (.int .i64)) (he : P.underlying bt = some .bool) (hz : (zeroValue bt).run P w = .ok (.bool false) w) (x : Int) (hx : (Lit.int .i64 x).wf = true) :
  (Instr.lookup t (.map (some b)) (.int .i64 x) false).run P w = .ok (.bool (s.contains x)) w := by
 obtain ⟨D, h, r⟩ := h
 obtain ⟨v, ps, hrun, hv⟩ := h.lookup K ht hz (plainElem_bool he false) (keyOf_int_mk hk hx)
 rw [r x] at hv
 unfold plainElem at hv
 rw [he] at hv
 cases v <;> simp at hv
 obtain ⟨rfl, _⟩ := hv
 rw [hrun]
 simp
theorem SetAt.store (h : SetAt P kt bt w b n s) (K : Keyed P kt) (ht : P.underlying t = some (.map kt bt)) (hk : P.underlying kt = some (.int .i64)) (he : P.underlying bt = some .bool) (hn : n < maxLen) (x : Int) (hx : (Lit.int .i64 x).wf = true) :
  ∃ w', (Instr.mapUpdate t (.map (some b)) (.int .i64 x) (.bool true)).run P w = .ok () w' ∧ SetAt P kt bt w' b (n + 1) (x :: s) ∧ w.grownBy w' (some b) := by
 obtain ⟨D, h, r⟩ := h
 have hkey := keyOf_int_mk hk hx
 obtain ⟨w', hrun, h', hg⟩ := h.update K ht hn hkey (plainElem_bool he true)
 refine ⟨w', hrun, ⟨_, h', fun y => ?_⟩, hg⟩
 by_cases e : y = x
 ·subst e
  rw [atKey_put_same h.isMap (by simp [WideAt.IsKeyLit])]
  simp
 ·rw [atKey_put_other (by intro e2; injection e2 with _ e3; exact e e3), r y]
  simp [e]
end Go.Av