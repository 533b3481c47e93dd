/- What a row lists of the library's variables (a table of internal/strconv; where e, strconv's two errors), carried from call to call: it reads so whatever the call does at its own blocks. -/
import Derived.Test.YtaddjeoncbmohaaDoorProg
import Derived.Lib.AppendIntMem
import Derived.Below
namespace Go.Proofs.YtaddjeoncbmohaaDoor.MyDoor
open Go Go.Lib Go.RowKit

/-- The listed variables, in one world. -/
def Has (e : Bool) (w : World) : Prop :=
  TabIs Tryd.prog w "internal/strconv.uint64pow10" .u64 pow10Tab ∧ (e = true → (∃ tp p, w.var? Tryd.prog "strconv.ErrSyntax" = some #[.iface tp p]) ∧ ∃ tp p, w.var? Tryd.prog "strconv.ErrRange" = some #[.iface tp p]) ∧
  (∀ g, Tryd.prog.globalNamed "internal/bytealg.MaxLen" = some g → ∃ m, w.cell? ⟨g, 0, none⟩ = some (.int .i64 m))

/-- They read so, and go on reading so, whatever is done from block w.heap.size on. -/
def Door (e : Bool) (w : World) : Prop := ∀ w', Below w.heap.size w w' → Has e w'

theorem Door.here {e : Bool} {w : World} (h : Door e w) : Has e w := h w (Below.refl _ _)

theorem Door.go {e : Bool} {w W : World} (h : Door e w) (hb : Below w.heap.size w W) : Door e W := fun w' hw => h w' (hb.trans (hw.mono hb.size))

theorem var_below {P : Program} {name : String} {cs : Array Value} {w w' : World} (h : w.var? P name = some cs) (hb : Below w.heap.size w w') : w'.var? P name = some cs := by
  unfold World.var? at *
  cases hg : P.globalNamed name with
  | none => simp [hg] at h
  | some g =>
    simp only [hg, Option.bind_some] at h ⊢
    have hlt : g < w.heap.size := by
      rcases Nat.lt_or_ge g w.heap.size with h' | h'
      · exact h'
      · rw [Array.getElem?_eq_none h'] at h; simp at h
    rw [hb.block g hlt]
    exact h

theorem cell_below {g : Nat} {v : Value} {w w' : World} (h : w.cell? ⟨g, 0, none⟩ = some v) (hb : Below w.heap.size w w') : w'.cell? ⟨g, 0, none⟩ = some v := by
  have hlt : g < w.heap.size := by
    rcases Nat.lt_or_ge g w.heap.size with h' | h'
    · exact h'
    · unfold World.cell? at h; simp [Array.getElem?_eq_none h'] at h
  unfold World.cell? at *
  rw [hb.block g hlt]
  exact h

theorem door_of {e : Bool} {w : World} (h : Has e w) : Door e w := fun w' hb =>
  ⟨tabBelow_of_tabIs h.1 w' hb, fun he => ⟨(h.2.1 he).1.imp fun _ h1 => h1.imp fun _ h2 => var_below h2 hb, (h.2.1 he).2.imp fun _ h1 => h1.imp fun _ h2 => var_below h2 hb⟩, fun g hg => (h.2.2 g hg).imp fun _ hm => cell_below hm hb⟩

end Go.Proofs.YtaddjeoncbmohaaDoor.MyDoor
