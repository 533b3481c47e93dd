/-
  No cell of these rows narrows 'for every input' (looked for: loops, veiled, ifaces, maps, wideKeys, modest, calm, conditions, laid).
  DERIVED. THE GIVEN ROWS OF THIS SEAT. 3 by the template 'for every input the law returns true; each argument reads behind the call as it read before'; 0 by the template 'total and deterministic' (their statements: YtnnppdjmhellcaaGreatTotals.lean).
  GIVEN WITH THE SEED: the statements are not yours to turn. If you find one false, say at which input.
  Laid BY PROGRAM, IN A SANDBOX (cutbox-rows.mjs): the forced cells as the released guide's own fill.sh prints them over the translation 1dde2ea81f527052… (all of the seat's roots in one cut). By AI agents, Wed Nov 11 2026. No macro, syntax, notation, axiom, sorry.
-/
import Derived.Test.YtnnppdjmhellcaaGreatChecked
import GoSem.Claim
import GoSem.ClaimJoined
import GoSem.ClaimMapViews
import Derived.JoinedTies
import Derived.KernelRfl
namespace Go.Proofs.YtnnppdjmhellcaaGreat
/- THE CELL 'sum', in the pinned program and in every row, IS THE sha256 OF THE DUMP (.gsa) THAT YtnnppdjmhellcaaGreatProg.lean LOADS. Nothing in Lean hashes anything: it is a label: what it is worth is what the hold of that sum in a sandbox is worth. -/
noncomputable def Tryz.pinned : Pinned := { name := "ytnnppdjmhellcaagreat", sum := "1dde2ea81f5270527c24704a417d04b0cac01289ac4b9422498df492f3faddca", checked := Tryz.checked }
namespace Rows
def none {H : Type} : Left H := { results := [], args := [] }

/-- 'laws.FnExactYardOk': WHATEVER THE INPUT: true; the input reads as it did. -/
def fnExactYardOkSpec : ChangeSpec := { name := "fnExactYardOk", fn := fun _ => fun
  | [d] => { results := [.lit (.bool true)], args := [d] }
  | _ => none }
def fnExactYardOkRow : OpenClaim := { program := "ytnnppdjmhellcaagreat", sum := "1dde2ea81f5270527c24704a417d04b0cac01289ac4b9422498df492f3faddca", func := "loop.example/g00961/laws.FnExactYardOk", spec := "fnExactYardOk", unfollowed := true, recurses := true, apart := false }
def FnExactYardOkSaid : Prop := fnExactYardOkRow.holds Tryz.pinned (OpenSpec.ofChange fnExactYardOkSpec)

/-- ITS FALSE NEIGHBOUR: 'it returns false'. Refute it at one input. -/
def fnExactYardOkWrong : ChangeSpec := { name := "fnExactYardOk", fn := fun _ => fun
  | [d] => { results := [.lit (.bool false)], args := [d] }
  | _ => none }
def FnExactYardOkWrongFalsely : Prop := fnExactYardOkRow.holds Tryz.pinned (OpenSpec.ofChange fnExactYardOkWrong)

/-- 'laws.FnExactAllIn': WHATEVER THE INPUT: true; the input reads as it did. -/
def fnExactAllInSpec : ChangeSpec := { name := "fnExactAllIn", fn := fun _ => fun
  | [d] => { results := [.lit (.bool true)], args := [d] }
  | _ => none }
def fnExactAllInRow : OpenClaim := { program := "ytnnppdjmhellcaagreat", sum := "1dde2ea81f5270527c24704a417d04b0cac01289ac4b9422498df492f3faddca", func := "loop.example/g00961/laws.FnExactAllIn", spec := "fnExactAllIn", unfollowed := true, recurses := true, apart := false }
def FnExactAllInSaid : Prop := fnExactAllInRow.holds Tryz.pinned (OpenSpec.ofChange fnExactAllInSpec)

/-- ITS FALSE NEIGHBOUR: 'it returns false'. Refute it at one input. -/
def fnExactAllInWrong : ChangeSpec := { name := "fnExactAllIn", fn := fun _ => fun
  | [d] => { results := [.lit (.bool false)], args := [d] }
  | _ => none }
def FnExactAllInWrongFalsely : Prop := fnExactAllInRow.holds Tryz.pinned (OpenSpec.ofChange fnExactAllInWrong)

/-- 'laws.FnExactMovesLeft': WHATEVER THE INPUT: true; the input reads as it did. -/
def fnExactMovesLeftSpec : ChangeSpec := { name := "fnExactMovesLeft", fn := fun _ => fun
  | [d] => { results := [.lit (.bool true)], args := [d] }
  | _ => none }
def fnExactMovesLeftRow : OpenClaim := { program := "ytnnppdjmhellcaagreat", sum := "1dde2ea81f5270527c24704a417d04b0cac01289ac4b9422498df492f3faddca", func := "loop.example/g00961/laws.FnExactMovesLeft", spec := "fnExactMovesLeft", unfollowed := true, recurses := true, apart := false }
def FnExactMovesLeftSaid : Prop := fnExactMovesLeftRow.holds Tryz.pinned (OpenSpec.ofChange fnExactMovesLeftSpec)

/-- ITS FALSE NEIGHBOUR: 'it returns false'. Refute it at one input. -/
def fnExactMovesLeftWrong : ChangeSpec := { name := "fnExactMovesLeft", fn := fun _ => fun
  | [d] => { results := [.lit (.bool false)], args := [d] }
  | _ => none }
def FnExactMovesLeftWrongFalsely : Prop := fnExactMovesLeftRow.holds Tryz.pinned (OpenSpec.ofChange fnExactMovesLeftWrong)

/- THE SECOND FORM. 'bulk': how many values and letters a reading holds, each counted each time it is reached (what is shared counts as often as it is met; a slice's spare places count too). A statement '..UptoSaid' is the law's where the arguments, and the package variables that the reading takes, are together of bulk at most 1048576: NARROWER than '..Said'. Prove '..Said' where nothing that the law and all that it calls make is longer than what came in: it says more and counts as full. Else prove '..UptoSaid'. A law counts once. -/
mutual
def uptoBulk {H : Type} : DataW H → Nat
  | .lit (.string bytes) => bytes.length + 1
  | .lit _ => 1
  | .nil => 1
  | .ptr d => uptoBulk d + 1
  | .slice elems spare => uptoBulkAll elems + uptoBulkAll spare + 1
  | .agg parts => uptoBulkAll parts + 1
  | .iface _ d => uptoBulk d + 1
  | .map entries => uptoBulkEntries entries + 1
  | .held _ => 1
def uptoBulkAll {H : Type} : List (DataW H) → Nat
  | [] => 0
  | d :: r => uptoBulk d + uptoBulkAll r
def uptoBulkEntries {H : Type} : List (Lit × DataW H) → Nat
  | [] => 0
  | x :: r => uptoBulkEntry x + uptoBulkEntries r
def uptoBulkEntry {H : Type} : Lit × DataW H → Nat
  | (.string bytes, d) => bytes.length + uptoBulk d + 1
  | (_, d) => uptoBulk d + 1
 end
def uptoSmall : (H : Type) → List (DataW H) → Bool := fun _ ds => decide (uptoBulkAll ds ≤ 1048576)
def OpenSpec.upto (s : _root_.Go.ChangeSpec) : _root_.Go.OpenSpec := { _root_.Go.OpenSpec.ofChange s with cond := some uptoSmall }

/-- 'laws.FnExactYardOk', WHERE WHAT IT READS IS OF BULK AT MOST 1048576: true; the input reads as it did. -/
def fnExactYardOkUptoRow : OpenClaim := { program := "ytnnppdjmhellcaagreat", sum := "1dde2ea81f5270527c24704a417d04b0cac01289ac4b9422498df492f3faddca", func := "loop.example/g00961/laws.FnExactYardOk", spec := "fnExactYardOk", unfollowed := true, recurses := true, apart := false, narrowed := true }
def FnExactYardOkUptoSaid : Prop := fnExactYardOkUptoRow.holds Tryz.pinned (OpenSpec.upto fnExactYardOkSpec)

/-- 'laws.FnExactAllIn', WHERE WHAT IT READS IS OF BULK AT MOST 1048576: true; the input reads as it did. -/
def fnExactAllInUptoRow : OpenClaim := { program := "ytnnppdjmhellcaagreat", sum := "1dde2ea81f5270527c24704a417d04b0cac01289ac4b9422498df492f3faddca", func := "loop.example/g00961/laws.FnExactAllIn", spec := "fnExactAllIn", unfollowed := true, recurses := true, apart := false, narrowed := true }
def FnExactAllInUptoSaid : Prop := fnExactAllInUptoRow.holds Tryz.pinned (OpenSpec.upto fnExactAllInSpec)

/-- 'laws.FnExactMovesLeft', WHERE WHAT IT READS IS OF BULK AT MOST 1048576: true; the input reads as it did. -/
def fnExactMovesLeftUptoRow : OpenClaim := { program := "ytnnppdjmhellcaagreat", sum := "1dde2ea81f5270527c24704a417d04b0cac01289ac4b9422498df492f3faddca", func := "loop.example/g00961/laws.FnExactMovesLeft", spec := "fnExactMovesLeft", unfollowed := true, recurses := true, apart := false, narrowed := true }
def FnExactMovesLeftUptoSaid : Prop := fnExactMovesLeftUptoRow.holds Tryz.pinned (OpenSpec.upto fnExactMovesLeftSpec)

end Rows
end Go.Proofs.YtnnppdjmhellcaaGreat
