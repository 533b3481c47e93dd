/- Functions that take a predicate: what is asked of it; where it first holds. -/
import Derived.Test.YtfinjkjnoobbjaaXFnTeams
import Derived.Deep.LoopGhost
import Derived.Laws.IdiomCopy
import Derived.Laws.Rows
namespace Go.Proofs.Ytfinjkjnoobbjaa.MyHof
open Go.RowKit Go.Proofs.YtfinjkjnoobbjaaW.PrintWords

/-- In every world in which all that lay in w lies unturned, the function tells p of each element, and leaves such a world. -/
def PredB {α : Type} (P : Program) (g : Nat) (lb : Array Value) (enc : α → Value) (p : α → Bool) (l : List α) (w : World) : Prop :=
  ∀ (W : World) (x : α), x ∈ l → Below w.heap.size w W → Calls P g (#[enc x] ++ lb) W fun e w' => e = .returned (.bool (p x)) ∧ Below w.heap.size w w'

/-- .. of elements that lead to rows (d: how they read). -/
def PredR {α : Type} (P : Program) (g : Nat) (lb : Array Value) (d : Kd α) (p : α → Bool) (l : List α) (w : World) : Prop :=
  ∀ (W : World) (x : α) (cs : List Value), x ∈ l → Below w.heap.size w W → d.K w x cs → Calls P g (#[.agg cs.toArray] ++ lb) W fun e w' => e = .returned (.bool (p x)) ∧ Below w.heap.size w w'

/-- Where p first holds, or -1. -/
def idxOf {α : Type} (p : α → Bool) (l : List α) : Int := match l.findIdx? p with | some i => (i : Int) | none => -1

theorem idxOf_hit {α : Type} {p : α → Bool} {l : List α} {k : Nat} (h : k < l.length) (hp : p l[k] = true) (hl : ∀ x ∈ l.take k, p x = false) : idxOf p l = k := by
  have : l.findIdx? p = some k := by
    rw [List.findIdx?_eq_some_iff_getElem]
    refine ⟨h, hp, fun j hj => ?_⟩
    have hjl : j < (l.take k).length := by simp; omega
    have := hl _ (List.getElem_mem hjl)
    rw [List.getElem_take] at this
    simp [this]
  unfold idxOf
  rw [this]

theorem idxOf_miss {α : Type} {p : α → Bool} {l : List α} (hl : ∀ x ∈ l, p x = false) : idxOf p l = -1 := by
  have : l.findIdx? p = none := List.findIdx?_eq_none_iff.2 hl
  unfold idxOf
  rw [this]

theorem idxOf_any {α : Type} (p : α → Bool) (l : List α) : decide (0 ≤ idxOf p l) = l.any p := by
  rw [← List.findIdx?_isSome]
  unfold idxOf
  cases l.findIdx? p with
  | none => rfl
  | some i => simp

theorem take_snoc_all {α : Type} {p : α → Bool} {l : List α} {k : Nat} (h : k < l.length) (hl : ∀ x ∈ l.take k, p x = false) (hp : p l[k] = false) : ∀ x ∈ l.take (k + 1), p x = false := by
  intro x hx
  rw [List.take_succ_eq_append_getElem h, List.mem_append, List.mem_singleton] at hx
  rcases hx with hx | rfl
  · exact hl x hx
  · exact hp

theorem int_at {w : World} {A : Option Addr} {l : List Int} (h : Kd.C (Kd.int .i64) w A l.length l) (i : Int) (h0 : 0 ≤ i) (h1 : i < l.length) :
    ∃ ad, A = some ad ∧ w.cell? (ad.add i.toNat) = some (.int .i64 (l[i.toNat]'(by omega))) := by
  obtain ⟨ad, e, hc⟩ := (Kd.reads_of_C (d := (0 : Int)) (h1 := fun _ => rfl) h).at_ i h0 h1
  refine ⟨ad, e, ?_⟩
  rw [hc]
  simp [rdOf, List.getD, show i.toNat < l.length by omega]

/-- A struct stored whole into a block of the call's own: said without opening it. -/
theorem exec_store_run {P : Program} {W w1 : World} {ev : Operand → Value} {o : Oper} {t : TypeId} {p x : Operand} {g : Nat} {e : TypeId} {cur : Array Value} {u : Value} (seg : List Value)
    (ho : o.op = .store t p x) (hp : ev p = .pointer (some ⟨g, 0, none⟩)) (hx : ev x = u) (hh : W.heap[g]? = some (.cells cur e (0, 0))) (hu : u.cells.toList = seg) (ht : (P.info? t).map (·.size) = some seg.length)
    (hfit : seg.length ≤ cur.size) (h1 : seg.all (·.oneCell') = true) (hw : W.setCells g 0 seg = w1) : (execOp ev o).run P W = .ok .skip w1 := by
  subst hw
  have hr := run_store_run (P := P) (o := 0) t u seg hh hu ht (by omega) (fun q hq => List.all_eq_true.1 h1 q hq)
  unfold execOp
  rw [ho]
  simp only [hp, hx]
  simp [hr, Result.andThen]

/-- A struct loaded whole out of a block of the call's own. -/
theorem exec_load_row {P : Program} {W : World} {ev : Operand → Value} {o : Oper} {ty : TypeId} {x : Operand} {g : Nat} {t : TypeId} {cs : Array Value} {fr : Nat × Nat} {d : TypeDesc}
    (ho : o.op = .load ty x) (hx : ev x = .pointer (some ⟨g, 0, none⟩)) (hh : W.heap[g]? = some (.cells cs t fr)) (hu : P.underlying ty = some d)
    (hd : (match d with | .struct _ | .array _ _ => true | _ => false) = true) (hi : (P.info? ty).map (·.size) = some cs.size) : (execOp ev o).run P W = .ok (.value (.agg cs)) W := by
  unfold execOp
  simp only [ho, hx, Instr.loadAt, Instr.sureAddr, Sem.run_bind, Sem.run_pure, Result.andThen_ok, run_loadVar_row W g t ty cs fr d hh hu hd hi]

end Go.Proofs.Ytfinjkjnoobbjaa.MyHof
