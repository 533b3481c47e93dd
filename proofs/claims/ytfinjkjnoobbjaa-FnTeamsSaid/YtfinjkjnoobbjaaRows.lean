/-
  No cell of these rows narrows 'for every input' (looked for: loops, veiled, ifaces, maps, wideKeys, modest, calm, conditions, laid).
  DERIVED. THE GIVEN ROWS OF THIS SEAT. 6 by the template 'for every input the law returns true; each argument reads behind the call as it read before'; 0 by the template 'total and deterministic' (their statements: YtfinjkjnoobbjaaTotals.lean).
  GIVEN WITH THE SEED: the statements are not yours to turn. If you find one false, say at which input.
  Laid BY PROGRAM, IN A SANDBOX (cutbox-rows.mjs): the forced cells as the released guide's own fill.sh prints them over the translation a279475435b0e123… (all of the seat's roots in one cut). By AI agents, Wed Nov 11 2026. No macro, syntax, notation, axiom, sorry.
-/
import Derived.Test.YtfinjkjnoobbjaaChecked
import GoSem.Claim
import GoSem.ClaimJoined
import GoSem.ClaimMapViews
import Derived.JoinedTies
import Derived.KernelRfl
namespace Go.Proofs.Ytfinjkjnoobbjaa
/- THE CELL 'sum', in the pinned program and in every row, IS THE sha256 OF THE DUMP (.gsa) THAT YtfinjkjnoobbjaaProg.lean LOADS. Nothing in Lean hashes anything: it is a label: what it is worth is what the hold of that sum in a sandbox is worth. -/
noncomputable def Try.pinned : Pinned := { name := "ytfinjkjnoobbjaa", sum := "a279475435b0e123238e17ab26505184d94a7f9d65dadb0c918c94664ee616b3", checked := Try.checked }
namespace Rows
def none {H : Type} : Left H := { results := [], args := [] }

/-- 'laws.FnExactYardNew': WHATEVER THE INPUT: true; the input reads as it did. -/
def fnExactYardNewSpec : ChangeSpec := { name := "fnExactYardNew", fn := fun _ => fun
  | [d] => { results := [.lit (.bool true)], args := [d] }
  | _ => none }
def fnExactYardNewRow : OpenClaim := { program := "ytfinjkjnoobbjaa", sum := "a279475435b0e123238e17ab26505184d94a7f9d65dadb0c918c94664ee616b3", func := "loop.example/g00961/laws.FnExactYardNew", spec := "fnExactYardNew", apart := false }
def FnExactYardNewSaid : Prop := fnExactYardNewRow.holds Try.pinned (OpenSpec.ofChange fnExactYardNewSpec)

/-- ITS FALSE NEIGHBOUR: 'it returns false'. Refute it at one input. -/
def fnExactYardNewWrong : ChangeSpec := { name := "fnExactYardNew", fn := fun _ => fun
  | [d] => { results := [.lit (.bool false)], args := [d] }
  | _ => none }
def FnExactYardNewWrongFalsely : Prop := fnExactYardNewRow.holds Try.pinned (OpenSpec.ofChange fnExactYardNewWrong)

/-- 'laws.FnExactJobsOk': WHATEVER THE INPUT: true; the input reads as it did. -/
def fnExactJobsOkSpec : ChangeSpec := { name := "fnExactJobsOk", fn := fun _ => fun
  | [d] => { results := [.lit (.bool true)], args := [d] }
  | _ => none }
def fnExactJobsOkRow : OpenClaim := { program := "ytfinjkjnoobbjaa", sum := "a279475435b0e123238e17ab26505184d94a7f9d65dadb0c918c94664ee616b3", func := "loop.example/g00961/laws.FnExactJobsOk", spec := "fnExactJobsOk", unfollowed := true, recurses := true, apart := false }
def FnExactJobsOkSaid : Prop := fnExactJobsOkRow.holds Try.pinned (OpenSpec.ofChange fnExactJobsOkSpec)

/-- ITS FALSE NEIGHBOUR: 'it returns false'. Refute it at one input. -/
def fnExactJobsOkWrong : ChangeSpec := { name := "fnExactJobsOk", fn := fun _ => fun
  | [d] => { results := [.lit (.bool false)], args := [d] }
  | _ => none }
def FnExactJobsOkWrongFalsely : Prop := fnExactJobsOkRow.holds Try.pinned (OpenSpec.ofChange fnExactJobsOkWrong)

/-- 'laws.FnExactSafeYard': WHATEVER THE INPUT: true; the input reads as it did. -/
def fnExactSafeYardSpec : ChangeSpec := { name := "fnExactSafeYard", fn := fun _ => fun
  | [d] => { results := [.lit (.bool true)], args := [d] }
  | _ => none }
def fnExactSafeYardRow : OpenClaim := { program := "ytfinjkjnoobbjaa", sum := "a279475435b0e123238e17ab26505184d94a7f9d65dadb0c918c94664ee616b3", func := "loop.example/g00961/laws.FnExactSafeYard", spec := "fnExactSafeYard", apart := false }
def FnExactSafeYardSaid : Prop := fnExactSafeYardRow.holds Try.pinned (OpenSpec.ofChange fnExactSafeYardSpec)

/-- ITS FALSE NEIGHBOUR: 'it returns false'. Refute it at one input. -/
def fnExactSafeYardWrong : ChangeSpec := { name := "fnExactSafeYard", fn := fun _ => fun
  | [d] => { results := [.lit (.bool false)], args := [d] }
  | _ => none }
def FnExactSafeYardWrongFalsely : Prop := fnExactSafeYardRow.holds Try.pinned (OpenSpec.ofChange fnExactSafeYardWrong)

/-- 'laws.FnExactNamesIn': WHATEVER THE INPUT: true; the input reads as it did. -/
def fnExactNamesInSpec : ChangeSpec := { name := "fnExactNamesIn", fn := fun _ => fun
  | [d1, d2] => { results := [.lit (.bool true)], args := [d1, d2] }
  | _ => none }
def fnExactNamesInRow : OpenClaim := { program := "ytfinjkjnoobbjaa", sum := "a279475435b0e123238e17ab26505184d94a7f9d65dadb0c918c94664ee616b3", func := "loop.example/g00961/laws.FnExactNamesIn", spec := "fnExactNamesIn", recurses := true, apart := false }
def FnExactNamesInSaid : Prop := fnExactNamesInRow.holds Try.pinned (OpenSpec.ofChange fnExactNamesInSpec)

/-- ITS FALSE NEIGHBOUR: 'it returns false'. Refute it at one input. -/
def fnExactNamesInWrong : ChangeSpec := { name := "fnExactNamesIn", fn := fun _ => fun
  | [d1, d2] => { results := [.lit (.bool false)], args := [d1, d2] }
  | _ => none }
def FnExactNamesInWrongFalsely : Prop := fnExactNamesInRow.holds Try.pinned (OpenSpec.ofChange fnExactNamesInWrong)

/-- 'laws.FnTeams': WHATEVER THE INPUT: true; the input reads as it did. -/
def fnTeamsSpec : ChangeSpec := { name := "fnTeams", fn := fun _ => fun
  | [d] => { results := [.lit (.bool true)], args := [d] }
  | _ => none }
def fnTeamsRow : OpenClaim := { program := "ytfinjkjnoobbjaa", sum := "a279475435b0e123238e17ab26505184d94a7f9d65dadb0c918c94664ee616b3", func := "loop.example/g00961/laws.FnTeams", spec := "fnTeams", unfollowed := true, recurses := true, apart := false }
def FnTeamsSaid : Prop := fnTeamsRow.holds Try.pinned (OpenSpec.ofChange fnTeamsSpec)

/-- ITS FALSE NEIGHBOUR: 'it returns false'. Refute it at one input. -/
def fnTeamsWrong : ChangeSpec := { name := "fnTeams", fn := fun _ => fun
  | [d] => { results := [.lit (.bool false)], args := [d] }
  | _ => none }
def FnTeamsWrongFalsely : Prop := fnTeamsRow.holds Try.pinned (OpenSpec.ofChange fnTeamsWrong)

/-- 'laws.FnExactOnward': WHATEVER THE INPUT: true; the input reads as it did. -/
def fnExactOnwardSpec : ChangeSpec := { name := "fnExactOnward", fn := fun _ => fun
  | [d] => { results := [.lit (.bool true)], args := [d] }
  | _ => none }
def fnExactOnwardRow : OpenClaim := { program := "ytfinjkjnoobbjaa", sum := "a279475435b0e123238e17ab26505184d94a7f9d65dadb0c918c94664ee616b3", func := "loop.example/g00961/laws.FnExactOnward", spec := "fnExactOnward", unfollowed := true, recurses := true, apart := false }
def FnExactOnwardSaid : Prop := fnExactOnwardRow.holds Try.pinned (OpenSpec.ofChange fnExactOnwardSpec)

/-- ITS FALSE NEIGHBOUR: 'it returns false'. Refute it at one input. -/
def fnExactOnwardWrong : ChangeSpec := { name := "fnExactOnward", fn := fun _ => fun
  | [d] => { results := [.lit (.bool false)], args := [d] }
  | _ => none }
def FnExactOnwardWrongFalsely : Prop := fnExactOnwardRow.holds Try.pinned (OpenSpec.ofChange fnExactOnwardWrong)

/- THE SECOND FORM. 'bulk': how many values and letters a reading holds, each counted each time it is reached (what is shared counts as often as it is met; a slice's spare places count too). A statement '..UptoSaid' is the law's where the arguments, and the package variables that the reading takes, are together of bulk at most 1048576: NARROWER than '..Said'. Prove '..Said' where nothing that the law and all that it calls make is longer than what came in: it says more and counts as full. Else prove '..UptoSaid'. A law counts once. -/
mutual
def uptoBulk {H : Type} : DataW H → Nat
  | .lit (.string bytes) => bytes.length + 1
  | .lit _ => 1
  | .nil => 1
  | .ptr d => uptoBulk d + 1
  | .slice elems spare => uptoBulkAll elems + uptoBulkAll spare + 1
  | .agg parts => uptoBulkAll parts + 1
  | .iface _ d => uptoBulk d + 1
  | .map entries => uptoBulkEntries entries + 1
  | .held _ => 1
def uptoBulkAll {H : Type} : List (DataW H) → Nat
  | [] => 0
  | d :: r => uptoBulk d + uptoBulkAll r
def uptoBulkEntries {H : Type} : List (Lit × DataW H) → Nat
  | [] => 0
  | x :: r => uptoBulkEntry x + uptoBulkEntries r
def uptoBulkEntry {H : Type} : Lit × DataW H → Nat
  | (.string bytes, d) => bytes.length + uptoBulk d + 1
  | (_, d) => uptoBulk d + 1
 end
def uptoSmall : (H : Type) → List (DataW H) → Bool := fun _ ds => decide (uptoBulkAll ds ≤ 1048576)
def OpenSpec.upto (s : _root_.Go.ChangeSpec) : _root_.Go.OpenSpec := { _root_.Go.OpenSpec.ofChange s with cond := some uptoSmall }

/-- 'laws.FnExactYardNew', WHERE WHAT IT READS IS OF BULK AT MOST 1048576: true; the input reads as it did. -/
def fnExactYardNewUptoRow : OpenClaim := { program := "ytfinjkjnoobbjaa", sum := "a279475435b0e123238e17ab26505184d94a7f9d65dadb0c918c94664ee616b3", func := "loop.example/g00961/laws.FnExactYardNew", spec := "fnExactYardNew", apart := false, narrowed := true }
def FnExactYardNewUptoSaid : Prop := fnExactYardNewUptoRow.holds Try.pinned (OpenSpec.upto fnExactYardNewSpec)

/-- 'laws.FnExactJobsOk', WHERE WHAT IT READS IS OF BULK AT MOST 1048576: true; the input reads as it did. -/
def fnExactJobsOkUptoRow : OpenClaim := { program := "ytfinjkjnoobbjaa", sum := "a279475435b0e123238e17ab26505184d94a7f9d65dadb0c918c94664ee616b3", func := "loop.example/g00961/laws.FnExactJobsOk", spec := "fnExactJobsOk", unfollowed := true, recurses := true, apart := false, narrowed := true }
def FnExactJobsOkUptoSaid : Prop := fnExactJobsOkUptoRow.holds Try.pinned (OpenSpec.upto fnExactJobsOkSpec)

/-- 'laws.FnExactSafeYard', WHERE WHAT IT READS IS OF BULK AT MOST 1048576: true; the input reads as it did. -/
def fnExactSafeYardUptoRow : OpenClaim := { program := "ytfinjkjnoobbjaa", sum := "a279475435b0e123238e17ab26505184d94a7f9d65dadb0c918c94664ee616b3", func := "loop.example/g00961/laws.FnExactSafeYard", spec := "fnExactSafeYard", apart := false, narrowed := true }
def FnExactSafeYardUptoSaid : Prop := fnExactSafeYardUptoRow.holds Try.pinned (OpenSpec.upto fnExactSafeYardSpec)

/-- 'laws.FnExactNamesIn', WHERE WHAT IT READS IS OF BULK AT MOST 1048576: true; the input reads as it did. -/
def fnExactNamesInUptoRow : OpenClaim := { program := "ytfinjkjnoobbjaa", sum := "a279475435b0e123238e17ab26505184d94a7f9d65dadb0c918c94664ee616b3", func := "loop.example/g00961/laws.FnExactNamesIn", spec := "fnExactNamesIn", recurses := true, apart := false, narrowed := true }
def FnExactNamesInUptoSaid : Prop := fnExactNamesInUptoRow.holds Try.pinned (OpenSpec.upto fnExactNamesInSpec)

/-- 'laws.FnTeams', WHERE WHAT IT READS IS OF BULK AT MOST 1048576: true; the input reads as it did. -/
def fnTeamsUptoRow : OpenClaim := { program := "ytfinjkjnoobbjaa", sum := "a279475435b0e123238e17ab26505184d94a7f9d65dadb0c918c94664ee616b3", func := "loop.example/g00961/laws.FnTeams", spec := "fnTeams", unfollowed := true, recurses := true, apart := false, narrowed := true }
def FnTeamsUptoSaid : Prop := fnTeamsUptoRow.holds Try.pinned (OpenSpec.upto fnTeamsSpec)

/-- 'laws.FnExactOnward', WHERE WHAT IT READS IS OF BULK AT MOST 1048576: true; the input reads as it did. -/
def fnExactOnwardUptoRow : OpenClaim := { program := "ytfinjkjnoobbjaa", sum := "a279475435b0e123238e17ab26505184d94a7f9d65dadb0c918c94664ee616b3", func := "loop.example/g00961/laws.FnExactOnward", spec := "fnExactOnward", unfollowed := true, recurses := true, apart := false, narrowed := true }
def FnExactOnwardUptoSaid : Prop := fnExactOnwardUptoRow.holds Try.pinned (OpenSpec.upto fnExactOnwardSpec)

end Rows
end Go.Proofs.Ytfinjkjnoobbjaa
