/- A region that draws its order: its operations taken along a list (number, temporary, kind). -/
import Derived.Test.YtfinjkjnoobbjaaXFnTeams
namespace Go.Proofs.Ytfinjkjnoobbjaa.MyReg
open Go Go.RowKit Go.Proofs.YtfinjkjnoobbjaaW.PrintWords Go.Proofs.YtfinjkjnoobbjaaW.PrintLast
/-- What is to be shown, with the operations that are taken next. -/
def Plan (_ : List (Nat × Nat × Nat)) (p : Prop) : Prop := p
theorem plan_ (o : List (Nat × Nat × Nat)) {p : Prop} (h : Plan o p) : p := h
theorem end_ {p : Prop} (h : p) : Plan [] p := h
variable {P : Program} {ops : Array Oper} {Q : Exit → Act → World → Prop} {md : Region.Mode} {S : World → Prop} {ds : List Nat} {T : Bool × List (List Nat × List Nat)}
/-- An operation that yields in every world. -/
theorem p0_ {i N : Nat} {o : List (Nat × Nat × Nat)} {oi : Oper} {v : Value} {fuel : Nat} {l l' : Array Bool} {a : Act} {w : World} (hT : rtab md ops = T) (_hl : l.setIfInBounds i true = l') (hi : ops[i]? = some oi) (hN : oi.dst = some N) (hc : anyT T l.toList l'.toList i = true)
    (hQ : ∀ c a w, Q (.panic c) (a.put oi.dst v) w → Q (.panic c) a w) (hy : Yields P ops oi v a) {a' : Act} (ha : a.put (some N) v = a')
    (h : Plan o (wpAnyLast P md ops Q S ds fuel l' a' w)) : Plan ((i, N, 0) :: o) (wpAnyLast P md ops Q S ds (fuel + 1) l a w) :=
  pure_ l' hi hN (any_of hT hc) hQ hy ha h
/-- .. that is left out. -/
theorem p1_ {i N : Nat} {o : List (Nat × Nat × Nat)} {oi : Oper} {fuel : Nat} {l l' : Array Bool} {a : Act} {w : World} (hT : rtab md ops = T) (_hl : l.setIfInBounds i true = l') (hi : ops[i]? = some oi) (hN : oi.dst = some N) (hc : anyT T l.toList l'.toList i = true)
    (hQ : ∀ c a w, Q (.panic c) (a.put oi.dst undef) w → Q (.panic c) a w) (hy : Yields P ops oi undef a) {a' : Act} (ha : a.put (some N) undef = a')
    (h : Plan o (wpAnyLast P md ops Q S ds fuel l' a' w)) : Plan ((i, N, 1) :: o) (wpAnyLast P md ops Q S ds (fuel + 1) l a w) :=
  pure_ l' hi hN (any_of hT hc) hQ hy ha h
/-- .. that yields in every world that meets S. -/
theorem p2_ {i N : Nat} {o : List (Nat × Nat × Nat)} {oi : Oper} {v : Value} {fuel : Nat} {l l' : Array Bool} {a : Act} {w : World} {B : List Nat} (hT : rtab md ops = T) (hB : waitsOk T.2 B = true) (_hl : l.setIfInBounds i true = l') (hi : ops[i]? = some oi) (hN : oi.dst = some N) (hc : takeW T B ds l.toList l'.toList i = true)
    (hQ : ∀ c a w, Q (.panic c) (a.put oi.dst v) w → Q (.panic c) a w) (hy : YieldsIf P ops S oi v a) (hS : S w) {a' : Act} (ha : a.put (some N) v = a')
    (h : Plan o (wpAnyLast P md ops Q S ds fuel l' a' w)) : Plan ((i, N, 2) :: o) (wpAnyLast P md ops Q S ds (fuel + 1) l a w) :=
  take_ l' hi hN (take_ofW hT hB hc) hQ hy hS ha h
end Go.Proofs.Ytfinjkjnoobbjaa.MyReg
