/- Operations: what each leaves, told without the machine (evOp), and that the machine does so. -/
import Derived.Test.YtfhjipfkaemapaaGreatAvB
import Derived.Laws.Small
import Derived.Laws.Cover3
namespace Go.Av
open Go Go.RowKit
set_option linter.unusedVariables false
set_option linter.unusedSimpArgs false
def All : List Prop → Prop
 | [] => True
 | [p] => p
 | p :: q :: r => p ∧ All (q :: r)
theorem All.cons {p : Prop} {l : List Prop} : All (p :: l) ↔ p ∧ All l := by
 cases l with
 | nil => simp [All]
 | cons q r => rfl
theorem All.append {l r : List Prop} : All (l ++ r) ↔ All l ∧ All r := by
 induction l with
 | nil => simp [All]
 | cons p l ih => rw [List.cons_append, All.cons, All.cons, ih, and_assoc]
def scv (v : Value) : AV := .t (.c (.p true (.sc v)))
def scOf : AV → Option Value
 | .t (.c (.p _ (.sc v))) => some v
 | _ => none
def cellsOf : AV → Option (List CV)
 | .t (.c x) => some [x]
 | .t (.agg xs) => some xs
 | _ => none
theorem scOf_rep {base : Nat} {w : World} {σ : Sig} {av : AV} {v u : Value} (h : scOf av = some v) (hr : RepA base w σ av u) : u = v ∧ v.oneCell' = true := by
 unfold scOf at h
 split at h
 ·cases h
  cases hr with
  | sc v h1 => exact ⟨rfl, h1⟩
 ·cases h
theorem rep_scv {base : Nat} {w : World} {σ : Sig} {v : Value} (h : v.oneCell' = true) : RepA base w σ (scv v) v := .sc v h
theorem rep_undef {base : Nat} {w : World} {σ : Sig} : RepA base w σ (.tup []) undef := ⟨[], rfl, rfl, fun i t v ht => by simp at ht⟩
theorem RepC.one {base : Nat} {w : World} {σ : Sig} {c : CV} {v : Value} (h : RepC base w σ c v) : v.oneCell' = true := by
 cases c with
 | any => exact h
 | p fr x => exact Rep.one h
 | h s => exact h.2
 | hn s => exact h.2
 | hv s x => exact h.2.2
theorem cells_one {v : Value} (h : v.oneCell' = true) : v.cells = #[v] := by
 cases v <;> first | rfl | (simp [Value.oneCell'] at h)
theorem cellsOf_rep {base : Nat} {w : World} {σ : Sig} {av : AV} {cs : List CV} {u : Value} (h : cellsOf av = some cs) (hr : RepA base w σ av u) : RepCs base w σ cs u.cells.toList := by
 unfold cellsOf at h
 split at h
 ·rename_i x
  cases h
  have h1 : RepC base w σ x u := hr
  rw [cells_one h1.one]
  refine ⟨rfl, fun i c v hc hv => ?_⟩
  cases i with
  | zero => simp at hc hv; subst hc; subst hv; exact h1
  | succ i => simp at hc
 ·cases h
  obtain ⟨vs, rfl, h1⟩ := hr
  exact h1
 ·cases h
theorem RepCs.one {base : Nat} {w : World} {σ : Sig} {cs : List CV} {vs : List Value} (h : RepCs base w σ cs vs) : ∀ u ∈ vs, u.oneCell' = true := by
 intro u hu
 obtain ⟨i, hi, rfl⟩ := List.mem_iff_getElem.1 hu
 have hi' : i < cs.length := by have := h.1; omega
 exact (h.2 i cs[i] vs[i] (List.getElem?_eq_getElem hi') (List.getElem?_eq_getElem hi)).one
def binV (P : Program) (op : BinOp) (t : TypeId) : Value → Value → Option (List Prop × Value)
 | .int k a, .int k' b =>
   match op with
   | .shl => some ([0 ≤ b], .int k (k.wrap (a * 2 ^ (min b.toNat k.bits))))
   | .shr => some ([0 ≤ b], .int k (a.fdiv (2 ^ (min b.toNat k.bits))))
   | _ => if k = k' then
     match op with
     | .add => some ([], .int k (k.wrap (a + b)))
     | .sub => some ([], .int k (k.wrap (a - b)))
     | .mul => some ([], .int k (k.wrap (a * b)))
     | .quo => some ([b ≠ 0], .int k (k.wrap (a.tdiv b)))
     | .rem => some ([b ≠ 0], .int k (a.tmod b))
     | .and => some ([], .int k (k.wrap (BitVec.ofInt k.bits a &&& BitVec.ofInt k.bits b).toNat))
     | .or => some ([], .int k (k.wrap (BitVec.ofInt k.bits a ||| BitVec.ofInt k.bits b).toNat))
     | .xor => some ([], .int k (k.wrap (BitVec.ofInt k.bits a ^^^ BitVec.ofInt k.bits b).toNat))
     | .eql => some ([], .bool (decide (a = b)))
     | .neq => some ([], .bool (!decide (a = b)))
     | .lss => some ([], .bool (decide (a < b)))
     | .leq => some ([], .bool (decide (a ≤ b)))
     | .gtr => some ([], .bool (decide (b < a)))
     | .geq => some ([], .bool (decide (b ≤ a)))
     | _ => none
     else none
 | .string a, .string b =>
   match op with
   | .add => some ([((a.size + b.size : Nat) : Int) ≤ IntKind.i64.max], .string (a ++ b))
   | .eql => some ([], .bool (a.toList == b.toList))
   | .neq => some ([], .bool (!(a.toList == b.toList)))
   | _ => none
 | .bool a, .bool b =>
   match op, P.underlying t with
   | .eql, some .bool => some ([], .bool (a == b))
   | .neq, some .bool => some ([], .bool (!(a == b)))
   | _, _ => none
 | .slice a _ _, .slice none 0 0 =>
   match op, P.underlying t with
   | .eql, some (.slice _) => some ([], .bool a.isNone)
   | .neq, some (.slice _) => some ([], .bool (!a.isNone))
   | _, _ => none
 | _, _ => none
theorem run_binV {P : Program} {op : BinOp} {t : TypeId} {x y : Operand} {a b r : Value} {obs : List Prop} {w : World} (h : binV P op t a b = some (obs, r)) (ho : All obs) :
  (do eqGuard op t x y a b; binOp op t a b : Sem Value).run P w = .ok r w ∧ r.oneCell' = true := by
 unfold binV at h
 split at h
 ·rename_i k a k' b
  have hg : eqGuard op t x y (.int k a) (.int k' b) = pure () := by unfold eqGuard; cases op <;> rfl
  rw [hg]
  split at h
  ·simp only [Option.some.injEq, Prod.mk.injEq] at h
   obtain ⟨rfl, rfl⟩ := h
   have : ¬ b < 0 := by simp [All] at ho; omega
   exact ⟨by simp [binOp, Op.shift, this], rfl⟩
  ·simp only [Option.some.injEq, Prod.mk.injEq] at h
   obtain ⟨rfl, rfl⟩ := h
   have : ¬ b < 0 := by simp [All] at ho; omega
   exact ⟨by simp [binOp, Op.shift, this], rfl⟩
  ·split at h
   ·rename_i hk
    subst hk
    split at h <;> first
     | (cases h; done)
     | (simp only [Option.some.injEq, Prod.mk.injEq] at h
        obtain ⟨rfl, rfl⟩ := h
        simp only [All] at ho
        exact ⟨by simp [binOp, Op.intArith, Op.intBits, Op.intCmp, Op.intDiv, ho] <;> (first | rfl | (rw [Bool.eq_iff_iff]; simp)), rfl⟩)
   ·cases h
 ·rename_i a b
  have hg : eqGuard op t x y (.string a) (.string b) = pure () := by unfold eqGuard; cases op <;> rfl
  rw [hg]
  split at h
  ·simp only [Option.some.injEq, Prod.mk.injEq] at h
   obtain ⟨rfl, rfl⟩ := h
   simp only [All] at ho
   have : ¬ ((a.size + b.size : Nat) : Int) > IntKind.i64.max := by omega
   exact ⟨by simp only [binOp, Op.stringOp, if_neg this]; rfl, rfl⟩
  ·simp only [Option.some.injEq, Prod.mk.injEq] at h
   obtain ⟨rfl, rfl⟩ := h
   exact ⟨by simp [binOp, Op.stringOp], rfl⟩
  ·simp only [Option.some.injEq, Prod.mk.injEq] at h
   obtain ⟨rfl, rfl⟩ := h
   exact ⟨by simp [binOp, Op.stringOp], rfl⟩
  ·cases h
 ·rename_i a b
  have hg : eqGuard op t x y (.bool a) (.bool b) = pure () := by unfold eqGuard; cases op <;> rfl
  rw [hg]
  split at h
  ·rename_i hu
   simp only [Option.some.injEq, Prod.mk.injEq] at h
   obtain ⟨rfl, rfl⟩ := h
   exact ⟨by simp [binOp, run_equal_bool w t a b hu], rfl⟩
  ·rename_i hu
   simp only [Option.some.injEq, Prod.mk.injEq] at h
   obtain ⟨rfl, rfl⟩ := h
   exact ⟨by simp [binOp, run_equal_bool w t a b hu], rfl⟩
  ·cases h
 ·rename_i a l c
  have hg : eqGuard op t x y (.slice a l c) (.slice none 0 0) = pure () := by unfold eqGuard; cases op <;> rfl
  rw [hg]
  split at h
  ·rename_i e hu
   simp only [Option.some.injEq, Prod.mk.injEq] at h
   obtain ⟨rfl, rfl⟩ := h
   exact ⟨by simp [binOp, run_equal_slice_nil w t e a l c hu], rfl⟩
  ·rename_i e hu
   simp only [Option.some.injEq, Prod.mk.injEq] at h
   obtain ⟨rfl, rfl⟩ := h
   exact ⟨by simp [binOp, run_equal_slice_nil w t e a l c hu], rfl⟩
  ·cases h
 ·cases h
end Go.Av