/- evOp: what an operation that neither writes nor calls leaves. -/
import Derived.Test.YtfhjipfkaemapaaGreatAvE
namespace Go.Av
open Go Go.RowKit
set_option linter.unusedVariables false
set_option linter.unusedSimpArgs false
def zeroV (P : Program) (t : TypeId) : Option (List V) :=
 match P.info? t with
 | some i => match i.zero with
   | some z => if z.cells.toList.all Value.oneCell' then some (z.cells.toList.map .sc) else none
   | none => none
 | none => none
def partsOf (ev : Operand → AV) : List (Nat × Operand) → Option (List (Nat × List CV))
 | [] => some []
 | (i, x) :: r => match cellsOf (ev x), partsOf ev r with
   | some cs, some l => some ((i, cs) :: l)
   | _, _ => none
def siteOf (d i : Nat) : Nat := d * 64 + i
def fieldsOf (P : Program) (t : TypeId) : Option (Array Field) := match P.underlying t with
 | some (.struct fs) => some fs
 | _ => none
def capsOf (ev : Operand → AV) : List Operand → Option (List (Nat × Nat))
 | [] => some []
 | x :: r => match ev x, capsOf ev r with
   | .ptr s off, some l => some ((s, off) :: l)
   | _, _ => none
def loOf (ev : Operand → AV) : Option Operand → Option Int
 | none => some 0
 | some l => match scOf (ev l) with
   | some (.int _ n) => some n
   | _ => none
def hiOf (ev : Operand → AV) (n : Nat) : Option Operand → Option Int
 | none => some n
 | some l => match scOf (ev l) with
   | some (.int _ h) => some h
   | _ => none
def rowOf (H : Nat → Option Content) : AV → Option (Nat × Nat × (Nat → List V))
 | .t (.c (.h s)) => match H s with
   | some (.row _ z n g _) => some (z, n, g)
   | _ => none
 | .t (.c (.p _ (.row z n g))) => some (z, n, g)
 | _ => none
def ByOk (n : Nat) (g : Nat → List V) : Prop := ∀ j, j < n → ∃ b : UInt8, g j = [.sc (.int .u8 (b.toNat : Int))]
def byOf : List V → UInt8
 | [.sc (.int _ b)] => UInt8.ofNat b.toNat
 | _ => 0
def bstr (n : Nat) (g : Nat → List V) : ByteArray := ⟨((List.range n).map fun j => byOf (g j)).toArray⟩
def rowNil (P : Program) (op : BinOp) (t : TypeId) (x : AV) (v : Value) : Option (Nat × Bool) :=
 match v, P.underlying t, x, op with
 | .slice none 0 0, some (.slice _), .t (.c (.p _ (.row _ n _))), .eql => some (n, false)
 | .slice none 0 0, some (.slice _), .t (.c (.p _ (.row _ n _))), .neq => some (n, true)
 | _, _, _, _ => none
def cut1 : Value → Value
 | .slice A n c => .slice (if c = 1 then A else A.map (·.add 1)) (n - 1) (c - 1)
 | _ => .slice none 0 0
def cutH (v : Value) : Nat → Value
 | 0 => v
 | j + 1 => cut1 (cutH v j)
def SliceK (u v : Value) (x : V) : Prop := ∀ (w : World) (ok : Nat → Prop), Rep w ok x v → ∃ n g, 0 < n ∧ Rep w ok (.row 1 n g) u
def evOp (P : Program) (o : Oper) (ev : Operand → AV) (H : Nat → Option Content) : Option (List Prop × Eff) :=
 match o.op with
 | .move x => some ([], ⟨ev x, []⟩)
 | .assign x => some ([], ⟨ev x, []⟩)
 | .nilCheck x => match ev x with
   | .ptr s off => some ([], ⟨.ptr s off, []⟩)
   | _ => none
 | .pick c a b => match scOf (ev c) with
   | some (.bool true) => some ([], ⟨ev a, []⟩)
   | some (.bool false) => some ([], ⟨ev b, []⟩)
   | _ => none
 | .binOp op t x y _ => match scOf (ev x), scOf (ev y) with
   | some u, some v => match binV P op t u v with
     | some (obs, r) => some (obs, ⟨scv r, []⟩)
     | none => none
   | _, some v => match rowNil P op t (ev x) v with
     | some (n, b) => some ([0 < n], ⟨scv (.bool b), []⟩)
     | none => none
   | _, _ => none
 | .unOp op _ x => match op, scOf (ev x) with
   | .not, some (.bool b) => some ([], ⟨scv (.bool (!b)), []⟩)
   | .neg, some (.int k n) => some ([], ⟨scv (.int k (k.wrap (0 - n))), []⟩)
   | _, _ => none
 | .convert src dst x => match P.underlying src, P.underlying dst, scOf (ev x) with
   | some _, some (.int k), some (.int _ n) => some ([], ⟨scv (.int k (k.wrap n)), []⟩)
   | some _, some (.slice e), some (.string s) => match P.underlying e, o.dst with
     | some (.int .u8), some d => some ([s.size ≤ maxLen], ⟨.t (.c (.h (siteOf d 0))), [(siteOf d 0, .row (e + MK) 1 s.size (fun j => [.sc (.int .u8 (bt s j))]) true)]⟩)
     | _, _ => none
   | some (.slice e), some .string, none => match P.underlying e, rowOf H (ev x) with
     | some (.int .u8), some (1, n, g) => some ([ByOk n g], ⟨scv (.string (bstr n g)), []⟩)
     | _, _ => none
   | _, _, _ => none
 | .makeMap t none => match P.underlying t, o.dst with
   | some (.map kt bt), some d => some ([], ⟨.t (.c (.h (siteOf d 0))), [(siteOf d 0, .set P kt bt 0 [])]⟩)
   | _, _ => none
 | .lookup t m x false => match ev m, scOf (ev x), P.underlying t with
   | .t (.c (.h s)), some (.int .i64 y), some (.map kt bt) => match H s, P.underlying kt, P.underlying bt, P.info? bt with
     | some (.set P' kt' bt' n l), some (.int .i64), some .bool, some i => if kt' = kt ∧ bt' = bt then match i.zero with
        | some (.bool false) => some ([P' = P, (Lit.int .i64 y).wf = true], ⟨scv (.bool (l.contains y)), []⟩)
        | _ => none
       else none
     | _, _, _, _ => none
   | _, _, _ => none
 | .range t x => match P.underlying t, scOf (ev x), o.dst with
   | some .string, some (.string s), some d => some ([], ⟨.ptr (siteOf d 0) 0, [(siteOf d 0, .iter s 0)]⟩)
   | _, _, _ => none
 | .extract x i => match ev x with
   | .tup ts => match ts[i]? with
     | some t => some ([], ⟨.t t, []⟩)
     | none => none
   | _ => none
 | .index t x ix => match P.underlying t, scOf (ev x), scOf (ev ix) with
   | some .string, some (.string s), some (.int _ i) => some ([0 ≤ i, i < (s.size : Int)], ⟨scv (.int .u8 (bt s i)), []⟩)
   | _, _, _ => none
 | .load t a => match placeOf H (ev a) with
   | some cs => match loadV P t cs with
     | some av => some ([], ⟨av, []⟩)
     | none => none
   | none => none
 | .fieldAddr t x f => match fieldsOf P t with
   | some fs => match fs[f]? with
     | some fd => match P.info? fd.type with
       | some i => if i.size = 0 then none else match ev x with
         | .ptr s off => some ([], ⟨.ptr s (off + fd.offset), []⟩)
         | .eptr s z j q => some ([], ⟨.eptr s z j (q + fd.offset), []⟩)
         | .bptr fr e => some ([], ⟨.bptr fr (e.drop fd.offset), []⟩)
         | _ => none
       | none => none
     | none => none
   | none => none
 | .field t x f => match fieldsOf P t with
   | some fs => match fs[f]? with
     | some fd => match ev x with
       | .t (.agg xs) => match loadV P fd.type (xs.drop fd.offset) with
         | some av => some ([], ⟨av, []⟩)
         | none => none
       | _ => none
     | none => none
   | none => none
 | .indexAddr t x ix => match P.underlying t with
   | some (.slice e) => match P.info? e, scOf (ev ix) with
     | some inf, some (.int _ i) => match ev x with
       | .t (.c (.p fr (.row z n g))) => if inf.size = z then some ([0 ≤ i, i < (n : Int)], ⟨.bptr fr (g i.toNat), []⟩) else none
       | .t (.c (.h s)) => match H s with
         | some (.row _ z n g fr) => if inf.size = z then some ([0 ≤ i, i < (n : Int)], ⟨.eptr s z i.toNat 0, []⟩) else none
         | _ => none
       | _ => none
     | _, _ => none
   | _ => none
 | .slice t x lo hi none => match P.underlying t with
   | some .string => match scOf (ev x) with
     | some (.string s) => match loOf ev lo, hiOf ev s.size hi with
       | some l, some h => some ([0 ≤ l, l ≤ h, h ≤ (s.size : Int)], ⟨scv (.string (s.extract l.toNat h.toNat)), []⟩)
       | _, _ => none
     | _ => none
   | some (.slice e) => match P.info? e, ev x with
     | some inf, .t (.c (.p fr (.row z n g))) => if inf.size = z then match loOf ev lo, hiOf ev n hi with
        | some l, some h => some ([0 ≤ l, l ≤ h, h ≤ (n : Int)], ⟨.t (.c (.p fr (.row z (h.toNat - l.toNat) (fun j => g (l.toNat + j))))), []⟩)
        | _, _ => none
       else none
     | some inf, .t (.c (.p fr (.known u v x0))) => if inf.size = 1 ∧ loOf ev lo = some 1 ∧ hi.isNone = true then some ([SliceK u v x0], ⟨.t (.c (.p fr (.known (cut1 u) v x0))), []⟩) else none
     | _, _ => none
   | _ => none
 | .box t x => match cellsOf (ev x), o.dst with
   | some cs, some d => some ([], ⟨.ptr (siteOf d 0) 0, [(siteOf d 0, .box t cs)]⟩)
   | _, _ => none
 | .alloc t => match zeroV P t, o.dst with
   | some zs, some d => some ([], ⟨.ptr (siteOf d 0) 0, [(siteOf d 0, .box t (zs.map (.p true)))]⟩)
   | _, _ => none
 | .build t parts => match fieldsOf P t, zeroV P t, partsOf ev parts.toList with
   | some fs, some zs, some ps => if fs.all (fun f => (P.info? f.type).isSome) then
      match fillC (fun k => (fs[k]?).map fun f => (f.offset, P.cellsOf f.type)) (zs.map (.p true)) ps with
      | some cs => some ([], ⟨.t (.agg cs), []⟩)
      | none => none
     else none
   | _, _, _ => none
 | .buildSlice t len parts => match P.underlying t, o.dst with
   | some (.slice e), some d => match P.info? e, zeroV P e, partsOf ev parts.toList with
     | some inf, some zs, some ps => if 2 ^ 24 < len * inf.size ∨ zs.length ≠ inf.size ∨ inf.size = 0 ∨ MK ≤ e then none else
       match fillC (fun k => some (k * inf.size, inf.size)) ((List.range (len * inf.size)).map fun k => .p true (zs.getD (k % zs.length) (.sc undef))) ps with
       | some cs => match pures cs with
         | some (fr, xs) => some ([], ⟨.t (.c (.h (siteOf d 0))), [(siteOf d 0, .row e inf.size len (chunk inf.size xs) fr)]⟩)
         | none => none
       | none => none
     | _, _, _ => none
   | _, _ => none
 | .makeSlice t l c => match P.underlying t, o.dst with
   | some (.slice e), some d => match P.info? e, zeroV P e, scOf (ev l), scOf (ev c) with
     | some inf, some zs, some (.int _ n), some (.int _ m) => if zs.length ≠ inf.size ∨ inf.size = 0 ∨ MK ≤ e then none else
       some ([n = m, 0 ≤ n, n.toNat ≤ maxLen, n.toNat * inf.bytes ≤ 140737488355328], ⟨.t (.c (.h (siteOf d 0))), [(siteOf d 0, .row e inf.size n.toNat (fun _ => zs) true)]⟩)
     | _, _, _, _ => none
   | _, _ => none
 | .makeFunc (.func g) first caps => if first.size = 0 then
    match capsOf ev caps.toList with
    | some l => some ([], ⟨.fn g l, []⟩)
    | none => none
   else none
 | .call { callee := .builtin .len, args := args, argTypes := ts } => match args[0]?, ts[0]? with
   | some x, some t => match P.underlying t with
     | some .string => match scOf (ev x) with
       | some (.string s) => some ([], ⟨scv (.int .i64 (s.size : Int)), []⟩)
       | _ => none
     | some (.slice _) => match ev x with
       | .t (.c (.p _ (.row _ n _))) => some ([], ⟨scv (.int .i64 (n : Int)), []⟩)
       | .t (.c (.p _ (.sc (.slice none 0 0)))) => some ([], ⟨scv (.int .i64 0), []⟩)
       | .t (.c (.h s)) => match H s with
         | some (.row _ _ n _ _) => some ([], ⟨scv (.int .i64 (n : Int)), []⟩)
         | _ => none
       | _ => none
     | _ => none
   | _, _ => none
 | .call { callee := .builtin .max, args := args, argTypes := ts } => match args.toList with
   | [x, y] => match scOf (ev x), scOf (ev y) with
     | some (.int k a), some (.int _ b) => some ([], ⟨scv (.int k (if b > a then b else a)), []⟩)
     | _, _ => none
   | _ => none
 | .call { callee := .builtin .min, args := args, argTypes := ts } => match args.toList with
   | [x, y] => match scOf (ev x), scOf (ev y) with
     | some (.int k a), some (.int _ b) => some ([], ⟨scv (.int k (if b < a then b else a)), []⟩)
     | _, _ => none
   | _ => none
 | _ => none
end Go.Av