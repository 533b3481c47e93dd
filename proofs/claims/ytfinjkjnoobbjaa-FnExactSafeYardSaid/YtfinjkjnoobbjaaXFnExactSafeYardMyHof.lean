/- Functions that take a predicate: what is asked of it; where it first holds. -/
import Derived.Test.YtfinjkjnoobbjaaXFnExactSafeYard
import Derived.Deep.LoopGhost
import Derived.Laws.IdiomCopy
import Derived.Laws.Rows
namespace Go.Proofs.Ytfinjkjnoobbjaa.MyHof
open Go.RowKit Go.Proofs.YtfinjkjnoobbjaaW.PrintWords

/-- In every world in which all that lay in w lies unturned, the function tells p of each element, and leaves such a world. -/
def PredB {α : Type} (P : Program) (g : Nat) (lb : Array Value) (enc : α → Value) (p : α → Bool) (l : List α) (w : World) : Prop :=
  ∀ (W : World) (x : α), x ∈ l → Below w.heap.size w W → Calls P g (#[enc x] ++ lb) W fun e w' => e = .returned (.bool (p x)) ∧ Below w.heap.size w w'

/-- .. of elements that lead to rows (d: how they read). -/
def PredR {α : Type} (P : Program) (g : Nat) (lb : Array Value) (d : Kd α) (p : α → Bool) (l : List α) (w : World) : Prop :=
  ∀ (W : World) (x : α) (cs : List Value), x ∈ l → Below w.heap.size w W → d.K w x cs → Calls P g (#[.agg cs.toArray] ++ lb) W fun e w' => e = .returned (.bool (p x)) ∧ Below w.heap.size w w'

/-- Where p first holds, or -1. -/
def idxOf {α : Type} (p : α → Bool) (l : List α) : Int := match l.findIdx? p with | some i => (i : Int) | none => -1

theorem exec_store_run {P : Program} {W w1 : World} {ev : Operand → Value} {o : Oper} {t : TypeId} {p x : Operand} {g : Nat} {e : TypeId} {cur : Array Value} {u : Value} (seg : List Value)
    (ho : o.op = .store t p x) (hp : ev p = .pointer (some ⟨g, 0, none⟩)) (hx : ev x = u) (hh : W.heap[g]? = some (.cells cur e (0, 0))) (hu : u.cells.toList = seg) (ht : (P.info? t).map (·.size) = some seg.length)
    (hfit : seg.length ≤ cur.size) (h1 : seg.all (·.oneCell') = true) (hw : W.setCells g 0 seg = w1) : (execOp ev o).run P W = .ok .skip w1 := by
  subst hw
  have hr := run_store_run (P := P) (o := 0) t u seg hh hu ht (by omega) (fun q hq => List.all_eq_true.1 h1 q hq)
  unfold execOp
  rw [ho]
  simp only [hp, hx]
  simp [hr, Result.andThen]

/-- A struct loaded whole out of a block of the call's own. -/
theorem exec_load_row {P : Program} {W : World} {ev : Operand → Value} {o : Oper} {ty : TypeId} {x : Operand} {g : Nat} {t : TypeId} {cs : Array Value} {fr : Nat × Nat} {d : TypeDesc}
    (ho : o.op = .load ty x) (hx : ev x = .pointer (some ⟨g, 0, none⟩)) (hh : W.heap[g]? = some (.cells cs t fr)) (hu : P.underlying ty = some d)
    (hd : (match d with | .struct _ | .array _ _ => true | _ => false) = true) (hi : (P.info? ty).map (·.size) = some cs.size) : (execOp ev o).run P W = .ok (.value (.agg cs)) W := by
  unfold execOp
  simp only [ho, hx, Instr.loadAt, Instr.sureAddr, Sem.run_bind, Sem.run_pure, Result.andThen_ok, run_loadVar_row W g t ty cs fr d hh hu hd hi]

end Go.Proofs.Ytfinjkjnoobbjaa.MyHof
