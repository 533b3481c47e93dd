/-
  No cell of these rows narrows 'for every input' (looked for: loops, veiled, ifaces, maps, wideKeys, modest, calm, conditions, laid).
  DERIVED. THE GIVEN ROWS OF THIS SEAT. 4 by the template 'for every input the law returns true; each argument reads behind the call as it read before'; 0 by the template 'total and deterministic' (their statements: YtaddjeoncbmohaaTotals.lean).
  GIVEN WITH THE SEED: the statements are not yours to turn. If you find one false, say at which input.
  Laid BY PROGRAM, IN A SANDBOX (cutbox-rows.mjs): the forced cells as the released guide's own fill.sh prints them over the translation 737060e05a50417d… (all of the seat's roots in one cut). By AI agents, Wed Nov 11 2026. No macro, syntax, notation, axiom, sorry.
-/
import Derived.Test.YtaddjeoncbmohaaChecked
import GoSem.Claim
import GoSem.ClaimJoined
import GoSem.ClaimMapViews
import Derived.JoinedTies
import Derived.KernelRfl
namespace Go.Proofs.Ytaddjeoncbmohaa
/- THE CELL 'sum', in the pinned program and in every row, IS THE sha256 OF THE DUMP (.gsa) THAT YtaddjeoncbmohaaProg.lean LOADS. Nothing in Lean hashes anything: it is a label: what it is worth is what the hold of that sum in a sandbox is worth. -/
noncomputable def Try.pinned : Pinned := { name := "ytaddjeoncbmohaa", sum := "737060e05a50417d8b7a2602e256c34a2ab20a6da3fd01efa8eedb26a31b48fd", checked := Try.checked }
namespace Rows
def none {H : Type} : Left H := { results := [], args := [] }

/-- 'laws.FnTeams': WHATEVER THE INPUT: true; the input reads as it did. -/
def fnTeamsSpec : ChangeSpec := { name := "fnTeams", fn := fun _ => fun
  | [d] => { results := [.lit (.bool true)], args := [d] }
  | _ => none }
def fnTeamsRow : OpenClaim := { program := "ytaddjeoncbmohaa", sum := "737060e05a50417d8b7a2602e256c34a2ab20a6da3fd01efa8eedb26a31b48fd", func := "loop.example/g00961/laws.FnTeams", spec := "fnTeams", unfollowed := true, recurses := true, apart := false }
def FnTeamsSaid : Prop := fnTeamsRow.holds Try.pinned (OpenSpec.ofChange fnTeamsSpec)

/-- ITS FALSE NEIGHBOUR: 'it returns false'. Refute it at one input. -/
def fnTeamsWrong : ChangeSpec := { name := "fnTeams", fn := fun _ => fun
  | [d] => { results := [.lit (.bool false)], args := [d] }
  | _ => none }
def FnTeamsWrongFalsely : Prop := fnTeamsRow.holds Try.pinned (OpenSpec.ofChange fnTeamsWrong)

/-- 'laws.FnExactOnward': WHATEVER THE INPUT: true; the input reads as it did. -/
def fnExactOnwardSpec : ChangeSpec := { name := "fnExactOnward", fn := fun _ => fun
  | [d] => { results := [.lit (.bool true)], args := [d] }
  | _ => none }
def fnExactOnwardRow : OpenClaim := { program := "ytaddjeoncbmohaa", sum := "737060e05a50417d8b7a2602e256c34a2ab20a6da3fd01efa8eedb26a31b48fd", func := "loop.example/g00961/laws.FnExactOnward", spec := "fnExactOnward", unfollowed := true, recurses := true, apart := false }
def FnExactOnwardSaid : Prop := fnExactOnwardRow.holds Try.pinned (OpenSpec.ofChange fnExactOnwardSpec)

/-- ITS FALSE NEIGHBOUR: 'it returns false'. Refute it at one input. -/
def fnExactOnwardWrong : ChangeSpec := { name := "fnExactOnward", fn := fun _ => fun
  | [d] => { results := [.lit (.bool false)], args := [d] }
  | _ => none }
def FnExactOnwardWrongFalsely : Prop := fnExactOnwardRow.holds Try.pinned (OpenSpec.ofChange fnExactOnwardWrong)

/-- 'laws.FnExactFootprint': WHATEVER THE INPUT: true; the input reads as it did. -/
def fnExactFootprintSpec : ChangeSpec := { name := "fnExactFootprint", fn := fun _ => fun
  | [d] => { results := [.lit (.bool true)], args := [d] }
  | _ => none }
def fnExactFootprintRow : OpenClaim := { program := "ytaddjeoncbmohaa", sum := "737060e05a50417d8b7a2602e256c34a2ab20a6da3fd01efa8eedb26a31b48fd", func := "loop.example/g00961/laws.FnExactFootprint", spec := "fnExactFootprint", recurses := true, apart := false }
def FnExactFootprintSaid : Prop := fnExactFootprintRow.holds Try.pinned (OpenSpec.ofChange fnExactFootprintSpec)

/-- ITS FALSE NEIGHBOUR: 'it returns false'. Refute it at one input. -/
def fnExactFootprintWrong : ChangeSpec := { name := "fnExactFootprint", fn := fun _ => fun
  | [d] => { results := [.lit (.bool false)], args := [d] }
  | _ => none }
def FnExactFootprintWrongFalsely : Prop := fnExactFootprintRow.holds Try.pinned (OpenSpec.ofChange fnExactFootprintWrong)

/-- 'laws.FnExactAcksOf': WHATEVER THE INPUT: true; the input reads as it did. -/
def fnExactAcksOfSpec : ChangeSpec := { name := "fnExactAcksOf", fn := fun _ => fun
  | [d] => { results := [.lit (.bool true)], args := [d] }
  | _ => none }
def fnExactAcksOfRow : OpenClaim := { program := "ytaddjeoncbmohaa", sum := "737060e05a50417d8b7a2602e256c34a2ab20a6da3fd01efa8eedb26a31b48fd", func := "loop.example/g00961/laws.FnExactAcksOf", spec := "fnExactAcksOf", recurses := true, apart := false }
def FnExactAcksOfSaid : Prop := fnExactAcksOfRow.holds Try.pinned (OpenSpec.ofChange fnExactAcksOfSpec)

/-- ITS FALSE NEIGHBOUR: 'it returns false'. Refute it at one input. -/
def fnExactAcksOfWrong : ChangeSpec := { name := "fnExactAcksOf", fn := fun _ => fun
  | [d] => { results := [.lit (.bool false)], args := [d] }
  | _ => none }
def FnExactAcksOfWrongFalsely : Prop := fnExactAcksOfRow.holds Try.pinned (OpenSpec.ofChange fnExactAcksOfWrong)

/- THE SECOND FORM. 'bulk': how many values and letters a reading holds, each counted each time it is reached (what is shared counts as often as it is met; a slice's spare places count too). A statement '..UptoSaid' is the law's where the arguments, and the package variables that the reading takes, are together of bulk at most 1048576: NARROWER than '..Said'. Prove '..Said' where nothing that the law and all that it calls make is longer than what came in: it says more and counts as full. Else prove '..UptoSaid'. A law counts once. -/
mutual
def uptoBulk {H : Type} : DataW H → Nat
  | .lit (.string bytes) => bytes.length + 1
  | .lit _ => 1
  | .nil => 1
  | .ptr d => uptoBulk d + 1
  | .slice elems spare => uptoBulkAll elems + uptoBulkAll spare + 1
  | .agg parts => uptoBulkAll parts + 1
  | .iface _ d => uptoBulk d + 1
  | .map entries => uptoBulkEntries entries + 1
  | .held _ => 1
def uptoBulkAll {H : Type} : List (DataW H) → Nat
  | [] => 0
  | d :: r => uptoBulk d + uptoBulkAll r
def uptoBulkEntries {H : Type} : List (Lit × DataW H) → Nat
  | [] => 0
  | x :: r => uptoBulkEntry x + uptoBulkEntries r
def uptoBulkEntry {H : Type} : Lit × DataW H → Nat
  | (.string bytes, d) => bytes.length + uptoBulk d + 1
  | (_, d) => uptoBulk d + 1
 end
def uptoSmall : (H : Type) → List (DataW H) → Bool := fun _ ds => decide (uptoBulkAll ds ≤ 1048576)
def OpenSpec.upto (s : _root_.Go.ChangeSpec) : _root_.Go.OpenSpec := { _root_.Go.OpenSpec.ofChange s with cond := some uptoSmall }

/-- 'laws.FnTeams', WHERE WHAT IT READS IS OF BULK AT MOST 1048576: true; the input reads as it did. -/
def fnTeamsUptoRow : OpenClaim := { program := "ytaddjeoncbmohaa", sum := "737060e05a50417d8b7a2602e256c34a2ab20a6da3fd01efa8eedb26a31b48fd", func := "loop.example/g00961/laws.FnTeams", spec := "fnTeams", unfollowed := true, recurses := true, apart := false, narrowed := true }
def FnTeamsUptoSaid : Prop := fnTeamsUptoRow.holds Try.pinned (OpenSpec.upto fnTeamsSpec)

/-- 'laws.FnExactOnward', WHERE WHAT IT READS IS OF BULK AT MOST 1048576: true; the input reads as it did. -/
def fnExactOnwardUptoRow : OpenClaim := { program := "ytaddjeoncbmohaa", sum := "737060e05a50417d8b7a2602e256c34a2ab20a6da3fd01efa8eedb26a31b48fd", func := "loop.example/g00961/laws.FnExactOnward", spec := "fnExactOnward", unfollowed := true, recurses := true, apart := false, narrowed := true }
def FnExactOnwardUptoSaid : Prop := fnExactOnwardUptoRow.holds Try.pinned (OpenSpec.upto fnExactOnwardSpec)

/-- 'laws.FnExactFootprint', WHERE WHAT IT READS IS OF BULK AT MOST 1048576: true; the input reads as it did. -/
def fnExactFootprintUptoRow : OpenClaim := { program := "ytaddjeoncbmohaa", sum := "737060e05a50417d8b7a2602e256c34a2ab20a6da3fd01efa8eedb26a31b48fd", func := "loop.example/g00961/laws.FnExactFootprint", spec := "fnExactFootprint", recurses := true, apart := false, narrowed := true }
def FnExactFootprintUptoSaid : Prop := fnExactFootprintUptoRow.holds Try.pinned (OpenSpec.upto fnExactFootprintSpec)

/-- 'laws.FnExactAcksOf', WHERE WHAT IT READS IS OF BULK AT MOST 1048576: true; the input reads as it did. -/
def fnExactAcksOfUptoRow : OpenClaim := { program := "ytaddjeoncbmohaa", sum := "737060e05a50417d8b7a2602e256c34a2ab20a6da3fd01efa8eedb26a31b48fd", func := "loop.example/g00961/laws.FnExactAcksOf", spec := "fnExactAcksOf", recurses := true, apart := false, narrowed := true }
def FnExactAcksOfUptoSaid : Prop := fnExactAcksOfUptoRow.holds Try.pinned (OpenSpec.upto fnExactAcksOfSpec)

end Rows
end Go.Proofs.Ytaddjeoncbmohaa
