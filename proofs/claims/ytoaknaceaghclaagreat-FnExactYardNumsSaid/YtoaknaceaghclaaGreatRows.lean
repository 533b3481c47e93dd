/-
  No cell of these rows narrows 'for every input' (looked for: loops, veiled, ifaces, maps, wideKeys, modest, calm, conditions, laid).
  DERIVED. THE GIVEN ROWS OF THIS SEAT. 4 by the template 'for every input the law returns true; each argument reads behind the call as it read before'; 0 by the template 'total and deterministic' (their statements: YtoaknaceaghclaaGreatTotals.lean).
  GIVEN WITH THE SEED: the statements are not yours to turn. If you find one false, say at which input.
  Laid BY PROGRAM, IN A SANDBOX (cutbox-rows.mjs): the forced cells as the released guide's own fill.sh prints them over the translation 1a29df84f49b9beb… (all of the seat's roots in one cut). By AI agents, Wed Nov 11 2026. No macro, syntax, notation, axiom, sorry.
-/
import Derived.Test.YtoaknaceaghclaaGreatChecked
import GoSem.Claim
import GoSem.ClaimJoined
import GoSem.ClaimMapViews
import Derived.JoinedTies
import Derived.KernelRfl
namespace Go.Proofs.YtoaknaceaghclaaGreat
/- THE CELL 'sum', in the pinned program and in every row, IS THE sha256 OF THE DUMP (.gsa) THAT YtoaknaceaghclaaGreatProg.lean LOADS. Nothing in Lean hashes anything: it is a label: what it is worth is what the hold of that sum in a sandbox is worth. -/
noncomputable def Tryz.pinned : Pinned := { name := "ytoaknaceaghclaagreat", sum := "1a29df84f49b9beb0c13331d0fc5bd835315a3151ee2c29818e377f3a2d075b1", checked := Tryz.checked }
namespace Rows
def none {H : Type} : Left H := { results := [], args := [] }

/-- 'laws.FnExactYardNums': WHATEVER THE INPUT: true; the input reads as it did. -/
def fnExactYardNumsSpec : ChangeSpec := { name := "fnExactYardNums", fn := fun _ => fun
  | [d] => { results := [.lit (.bool true)], args := [d] }
  | _ => none }
def fnExactYardNumsRow : OpenClaim := { program := "ytoaknaceaghclaagreat", sum := "1a29df84f49b9beb0c13331d0fc5bd835315a3151ee2c29818e377f3a2d075b1", func := "loop.example/g00961/laws.FnExactYardNums", spec := "fnExactYardNums", unfollowed := true, recurses := true, apart := false }
def FnExactYardNumsSaid : Prop := fnExactYardNumsRow.holds Tryz.pinned (OpenSpec.ofChange fnExactYardNumsSpec)

/-- ITS FALSE NEIGHBOUR: 'it returns false'. Refute it at one input. -/
def fnExactYardNumsWrong : ChangeSpec := { name := "fnExactYardNums", fn := fun _ => fun
  | [d] => { results := [.lit (.bool false)], args := [d] }
  | _ => none }
def FnExactYardNumsWrongFalsely : Prop := fnExactYardNumsRow.holds Tryz.pinned (OpenSpec.ofChange fnExactYardNumsWrong)

/-- 'laws.FnExactOrdersOf': WHATEVER THE INPUT: true; the input reads as it did. -/
def fnExactOrdersOfSpec : ChangeSpec := { name := "fnExactOrdersOf", fn := fun _ => fun
  | [d] => { results := [.lit (.bool true)], args := [d] }
  | _ => none }
def fnExactOrdersOfRow : OpenClaim := { program := "ytoaknaceaghclaagreat", sum := "1a29df84f49b9beb0c13331d0fc5bd835315a3151ee2c29818e377f3a2d075b1", func := "loop.example/g00961/laws.FnExactOrdersOf", spec := "fnExactOrdersOf", unfollowed := true, recurses := true, apart := false }
def FnExactOrdersOfSaid : Prop := fnExactOrdersOfRow.holds Tryz.pinned (OpenSpec.ofChange fnExactOrdersOfSpec)

/-- ITS FALSE NEIGHBOUR: 'it returns false'. Refute it at one input. -/
def fnExactOrdersOfWrong : ChangeSpec := { name := "fnExactOrdersOf", fn := fun _ => fun
  | [d] => { results := [.lit (.bool false)], args := [d] }
  | _ => none }
def FnExactOrdersOfWrongFalsely : Prop := fnExactOrdersOfRow.holds Tryz.pinned (OpenSpec.ofChange fnExactOrdersOfWrong)

/-- 'laws.FnExactIssued': WHATEVER THE INPUT: true; the input reads as it did. -/
def fnExactIssuedSpec : ChangeSpec := { name := "fnExactIssued", fn := fun _ => fun
  | [d] => { results := [.lit (.bool true)], args := [d] }
  | _ => none }
def fnExactIssuedRow : OpenClaim := { program := "ytoaknaceaghclaagreat", sum := "1a29df84f49b9beb0c13331d0fc5bd835315a3151ee2c29818e377f3a2d075b1", func := "loop.example/g00961/laws.FnExactIssued", spec := "fnExactIssued", unfollowed := true, recurses := true, apart := false }
def FnExactIssuedSaid : Prop := fnExactIssuedRow.holds Tryz.pinned (OpenSpec.ofChange fnExactIssuedSpec)

/-- ITS FALSE NEIGHBOUR: 'it returns false'. Refute it at one input. -/
def fnExactIssuedWrong : ChangeSpec := { name := "fnExactIssued", fn := fun _ => fun
  | [d] => { results := [.lit (.bool false)], args := [d] }
  | _ => none }
def FnExactIssuedWrongFalsely : Prop := fnExactIssuedRow.holds Tryz.pinned (OpenSpec.ofChange fnExactIssuedWrong)

/-- 'laws.FnExactGoalsOf': WHATEVER THE INPUT: true; the input reads as it did. -/
def fnExactGoalsOfSpec : ChangeSpec := { name := "fnExactGoalsOf", fn := fun _ => fun
  | [d] => { results := [.lit (.bool true)], args := [d] }
  | _ => none }
def fnExactGoalsOfRow : OpenClaim := { program := "ytoaknaceaghclaagreat", sum := "1a29df84f49b9beb0c13331d0fc5bd835315a3151ee2c29818e377f3a2d075b1", func := "loop.example/g00961/laws.FnExactGoalsOf", spec := "fnExactGoalsOf", unfollowed := true, recurses := true, apart := false }
def FnExactGoalsOfSaid : Prop := fnExactGoalsOfRow.holds Tryz.pinned (OpenSpec.ofChange fnExactGoalsOfSpec)

/-- ITS FALSE NEIGHBOUR: 'it returns false'. Refute it at one input. -/
def fnExactGoalsOfWrong : ChangeSpec := { name := "fnExactGoalsOf", fn := fun _ => fun
  | [d] => { results := [.lit (.bool false)], args := [d] }
  | _ => none }
def FnExactGoalsOfWrongFalsely : Prop := fnExactGoalsOfRow.holds Tryz.pinned (OpenSpec.ofChange fnExactGoalsOfWrong)

/- THE SECOND FORM. 'bulk': how many values and letters a reading holds, each counted each time it is reached (what is shared counts as often as it is met; a slice's spare places count too). A statement '..UptoSaid' is the law's where the arguments, and the package variables that the reading takes, are together of bulk at most 1048576: NARROWER than '..Said'. Prove '..Said' where nothing that the law and all that it calls make is longer than what came in: it says more and counts as full. Else prove '..UptoSaid'. A law counts once. -/
mutual
def uptoBulk {H : Type} : DataW H → Nat
  | .lit (.string bytes) => bytes.length + 1
  | .lit _ => 1
  | .nil => 1
  | .ptr d => uptoBulk d + 1
  | .slice elems spare => uptoBulkAll elems + uptoBulkAll spare + 1
  | .agg parts => uptoBulkAll parts + 1
  | .iface _ d => uptoBulk d + 1
  | .map entries => uptoBulkEntries entries + 1
  | .held _ => 1
def uptoBulkAll {H : Type} : List (DataW H) → Nat
  | [] => 0
  | d :: r => uptoBulk d + uptoBulkAll r
def uptoBulkEntries {H : Type} : List (Lit × DataW H) → Nat
  | [] => 0
  | x :: r => uptoBulkEntry x + uptoBulkEntries r
def uptoBulkEntry {H : Type} : Lit × DataW H → Nat
  | (.string bytes, d) => bytes.length + uptoBulk d + 1
  | (_, d) => uptoBulk d + 1
 end
def uptoSmall : (H : Type) → List (DataW H) → Bool := fun _ ds => decide (uptoBulkAll ds ≤ 1048576)
def OpenSpec.upto (s : _root_.Go.ChangeSpec) : _root_.Go.OpenSpec := { _root_.Go.OpenSpec.ofChange s with cond := some uptoSmall }

/-- 'laws.FnExactYardNums', WHERE WHAT IT READS IS OF BULK AT MOST 1048576: true; the input reads as it did. -/
def fnExactYardNumsUptoRow : OpenClaim := { program := "ytoaknaceaghclaagreat", sum := "1a29df84f49b9beb0c13331d0fc5bd835315a3151ee2c29818e377f3a2d075b1", func := "loop.example/g00961/laws.FnExactYardNums", spec := "fnExactYardNums", unfollowed := true, recurses := true, apart := false, narrowed := true }
def FnExactYardNumsUptoSaid : Prop := fnExactYardNumsUptoRow.holds Tryz.pinned (OpenSpec.upto fnExactYardNumsSpec)

/-- 'laws.FnExactOrdersOf', WHERE WHAT IT READS IS OF BULK AT MOST 1048576: true; the input reads as it did. -/
def fnExactOrdersOfUptoRow : OpenClaim := { program := "ytoaknaceaghclaagreat", sum := "1a29df84f49b9beb0c13331d0fc5bd835315a3151ee2c29818e377f3a2d075b1", func := "loop.example/g00961/laws.FnExactOrdersOf", spec := "fnExactOrdersOf", unfollowed := true, recurses := true, apart := false, narrowed := true }
def FnExactOrdersOfUptoSaid : Prop := fnExactOrdersOfUptoRow.holds Tryz.pinned (OpenSpec.upto fnExactOrdersOfSpec)

/-- 'laws.FnExactIssued', WHERE WHAT IT READS IS OF BULK AT MOST 1048576: true; the input reads as it did. -/
def fnExactIssuedUptoRow : OpenClaim := { program := "ytoaknaceaghclaagreat", sum := "1a29df84f49b9beb0c13331d0fc5bd835315a3151ee2c29818e377f3a2d075b1", func := "loop.example/g00961/laws.FnExactIssued", spec := "fnExactIssued", unfollowed := true, recurses := true, apart := false, narrowed := true }
def FnExactIssuedUptoSaid : Prop := fnExactIssuedUptoRow.holds Tryz.pinned (OpenSpec.upto fnExactIssuedSpec)

/-- 'laws.FnExactGoalsOf', WHERE WHAT IT READS IS OF BULK AT MOST 1048576: true; the input reads as it did. -/
def fnExactGoalsOfUptoRow : OpenClaim := { program := "ytoaknaceaghclaagreat", sum := "1a29df84f49b9beb0c13331d0fc5bd835315a3151ee2c29818e377f3a2d075b1", func := "loop.example/g00961/laws.FnExactGoalsOf", spec := "fnExactGoalsOf", unfollowed := true, recurses := true, apart := false, narrowed := true }
def FnExactGoalsOfUptoSaid : Prop := fnExactGoalsOfUptoRow.holds Tryz.pinned (OpenSpec.upto fnExactGoalsOfSpec)

end Rows
end Go.Proofs.YtoaknaceaghclaaGreat
