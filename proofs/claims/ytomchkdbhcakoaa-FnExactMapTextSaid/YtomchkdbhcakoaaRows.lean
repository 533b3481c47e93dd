/-
  No cell of these rows narrows 'for every input' (looked for: loops, veiled, ifaces, maps, wideKeys, modest, calm, conditions, laid).
  DERIVED. THE GIVEN ROWS OF THIS SEAT. 9 by the template 'for every input the law returns true; each argument reads behind the call as it read before'; 0 by the template 'total and deterministic' (their statements: YtomchkdbhcakoaaTotals.lean).
  GIVEN WITH THE SEED: the statements are not yours to turn. If you find one false, say at which input.
  Laid BY PROGRAM, IN A SANDBOX (cutbox-rows.mjs): the forced cells as the released guide's own fill.sh prints them over the translation ffc8e336cb8396a5… (all of the seat's roots in one cut). By AI agents, Wed Nov 11 2026. No macro, syntax, notation, axiom, sorry.
-/
import Derived.Test.YtomchkdbhcakoaaChecked
import GoSem.Claim
import GoSem.ClaimJoined
import GoSem.ClaimMapViews
import Derived.JoinedTies
import Derived.KernelRfl
namespace Go.Proofs.Ytomchkdbhcakoaa
/- THE CELL 'sum', in the pinned program and in every row, IS THE sha256 OF THE DUMP (.gsa) THAT YtomchkdbhcakoaaProg.lean LOADS. Nothing in Lean hashes anything: it is a label: what it is worth is what the hold of that sum in a sandbox is worth. -/
noncomputable def Try.pinned : Pinned := { name := "ytomchkdbhcakoaa", sum := "ffc8e336cb8396a50b64c822a1bc9950a95210e076b4c3a58139ef26f60e7164", checked := Try.checked }
namespace Rows
def none {H : Type} : Left H := { results := [], args := [] }

/-- 'laws.FnExactGoalsHeld': WHATEVER THE INPUT: true; the input reads as it did. -/
def fnExactGoalsHeldSpec : ChangeSpec := { name := "fnExactGoalsHeld", fn := fun _ => fun
  | [d] => { results := [.lit (.bool true)], args := [d] }
  | _ => none }
def fnExactGoalsHeldRow : OpenClaim := { program := "ytomchkdbhcakoaa", sum := "ffc8e336cb8396a50b64c822a1bc9950a95210e076b4c3a58139ef26f60e7164", func := "loop.example/g00961/laws.FnExactGoalsHeld", spec := "fnExactGoalsHeld", unfollowed := true, recurses := true, apart := false }
def FnExactGoalsHeldSaid : Prop := fnExactGoalsHeldRow.holds Try.pinned (OpenSpec.ofChange fnExactGoalsHeldSpec)

/-- ITS FALSE NEIGHBOUR: 'it returns false'. Refute it at one input. -/
def fnExactGoalsHeldWrong : ChangeSpec := { name := "fnExactGoalsHeld", fn := fun _ => fun
  | [d] => { results := [.lit (.bool false)], args := [d] }
  | _ => none }
def FnExactGoalsHeldWrongFalsely : Prop := fnExactGoalsHeldRow.holds Try.pinned (OpenSpec.ofChange fnExactGoalsHeldWrong)

/-- 'laws.FnExactLayerOf': WHATEVER THE INPUT: true; the input reads as it did. -/
def fnExactLayerOfSpec : ChangeSpec := { name := "fnExactLayerOf", fn := fun _ => fun
  | [d] => { results := [.lit (.bool true)], args := [d] }
  | _ => none }
def fnExactLayerOfRow : OpenClaim := { program := "ytomchkdbhcakoaa", sum := "ffc8e336cb8396a50b64c822a1bc9950a95210e076b4c3a58139ef26f60e7164", func := "loop.example/g00961/laws.FnExactLayerOf", spec := "fnExactLayerOf", unfollowed := true, recurses := true, apart := false }
def FnExactLayerOfSaid : Prop := fnExactLayerOfRow.holds Try.pinned (OpenSpec.ofChange fnExactLayerOfSpec)

/-- ITS FALSE NEIGHBOUR: 'it returns false'. Refute it at one input. -/
def fnExactLayerOfWrong : ChangeSpec := { name := "fnExactLayerOf", fn := fun _ => fun
  | [d] => { results := [.lit (.bool false)], args := [d] }
  | _ => none }
def FnExactLayerOfWrongFalsely : Prop := fnExactLayerOfRow.holds Try.pinned (OpenSpec.ofChange fnExactLayerOfWrong)

/-- 'laws.FnExactYardNew': WHATEVER THE INPUT: true; the input reads as it did. -/
def fnExactYardNewSpec : ChangeSpec := { name := "fnExactYardNew", fn := fun _ => fun
  | [d] => { results := [.lit (.bool true)], args := [d] }
  | _ => none }
def fnExactYardNewRow : OpenClaim := { program := "ytomchkdbhcakoaa", sum := "ffc8e336cb8396a50b64c822a1bc9950a95210e076b4c3a58139ef26f60e7164", func := "loop.example/g00961/laws.FnExactYardNew", spec := "fnExactYardNew", apart := false }
def FnExactYardNewSaid : Prop := fnExactYardNewRow.holds Try.pinned (OpenSpec.ofChange fnExactYardNewSpec)

/-- ITS FALSE NEIGHBOUR: 'it returns false'. Refute it at one input. -/
def fnExactYardNewWrong : ChangeSpec := { name := "fnExactYardNew", fn := fun _ => fun
  | [d] => { results := [.lit (.bool false)], args := [d] }
  | _ => none }
def FnExactYardNewWrongFalsely : Prop := fnExactYardNewRow.holds Try.pinned (OpenSpec.ofChange fnExactYardNewWrong)

/-- 'laws.FnExactJobsOk': WHATEVER THE INPUT: true; the input reads as it did. -/
def fnExactJobsOkSpec : ChangeSpec := { name := "fnExactJobsOk", fn := fun _ => fun
  | [d] => { results := [.lit (.bool true)], args := [d] }
  | _ => none }
def fnExactJobsOkRow : OpenClaim := { program := "ytomchkdbhcakoaa", sum := "ffc8e336cb8396a50b64c822a1bc9950a95210e076b4c3a58139ef26f60e7164", func := "loop.example/g00961/laws.FnExactJobsOk", spec := "fnExactJobsOk", unfollowed := true, recurses := true, apart := false }
def FnExactJobsOkSaid : Prop := fnExactJobsOkRow.holds Try.pinned (OpenSpec.ofChange fnExactJobsOkSpec)

/-- ITS FALSE NEIGHBOUR: 'it returns false'. Refute it at one input. -/
def fnExactJobsOkWrong : ChangeSpec := { name := "fnExactJobsOk", fn := fun _ => fun
  | [d] => { results := [.lit (.bool false)], args := [d] }
  | _ => none }
def FnExactJobsOkWrongFalsely : Prop := fnExactJobsOkRow.holds Try.pinned (OpenSpec.ofChange fnExactJobsOkWrong)

/-- 'laws.FnExactUnderWay': WHATEVER THE INPUT: true; the input reads as it did. -/
def fnExactUnderWaySpec : ChangeSpec := { name := "fnExactUnderWay", fn := fun _ => fun
  | [d1, d2] => { results := [.lit (.bool true)], args := [d1, d2] }
  | _ => none }
def fnExactUnderWayRow : OpenClaim := { program := "ytomchkdbhcakoaa", sum := "ffc8e336cb8396a50b64c822a1bc9950a95210e076b4c3a58139ef26f60e7164", func := "loop.example/g00961/laws.FnExactUnderWay", spec := "fnExactUnderWay", recurses := true, apart := false }
def FnExactUnderWaySaid : Prop := fnExactUnderWayRow.holds Try.pinned (OpenSpec.ofChange fnExactUnderWaySpec)

/-- ITS FALSE NEIGHBOUR: 'it returns false'. Refute it at one input. -/
def fnExactUnderWayWrong : ChangeSpec := { name := "fnExactUnderWay", fn := fun _ => fun
  | [d1, d2] => { results := [.lit (.bool false)], args := [d1, d2] }
  | _ => none }
def FnExactUnderWayWrongFalsely : Prop := fnExactUnderWayRow.holds Try.pinned (OpenSpec.ofChange fnExactUnderWayWrong)

/-- 'laws.FnExactHeldBy': WHATEVER THE INPUT: true; the input reads as it did. -/
def fnExactHeldBySpec : ChangeSpec := { name := "fnExactHeldBy", fn := fun _ => fun
  | [d1, d2] => { results := [.lit (.bool true)], args := [d1, d2] }
  | _ => none }
def fnExactHeldByRow : OpenClaim := { program := "ytomchkdbhcakoaa", sum := "ffc8e336cb8396a50b64c822a1bc9950a95210e076b4c3a58139ef26f60e7164", func := "loop.example/g00961/laws.FnExactHeldBy", spec := "fnExactHeldBy", unfollowed := true, recurses := true, apart := false }
def FnExactHeldBySaid : Prop := fnExactHeldByRow.holds Try.pinned (OpenSpec.ofChange fnExactHeldBySpec)

/-- ITS FALSE NEIGHBOUR: 'it returns false'. Refute it at one input. -/
def fnExactHeldByWrong : ChangeSpec := { name := "fnExactHeldBy", fn := fun _ => fun
  | [d1, d2] => { results := [.lit (.bool false)], args := [d1, d2] }
  | _ => none }
def FnExactHeldByWrongFalsely : Prop := fnExactHeldByRow.holds Try.pinned (OpenSpec.ofChange fnExactHeldByWrong)

/-- 'laws.FnExactSafeYard': WHATEVER THE INPUT: true; the input reads as it did. -/
def fnExactSafeYardSpec : ChangeSpec := { name := "fnExactSafeYard", fn := fun _ => fun
  | [d] => { results := [.lit (.bool true)], args := [d] }
  | _ => none }
def fnExactSafeYardRow : OpenClaim := { program := "ytomchkdbhcakoaa", sum := "ffc8e336cb8396a50b64c822a1bc9950a95210e076b4c3a58139ef26f60e7164", func := "loop.example/g00961/laws.FnExactSafeYard", spec := "fnExactSafeYard", apart := false }
def FnExactSafeYardSaid : Prop := fnExactSafeYardRow.holds Try.pinned (OpenSpec.ofChange fnExactSafeYardSpec)

/-- ITS FALSE NEIGHBOUR: 'it returns false'. Refute it at one input. -/
def fnExactSafeYardWrong : ChangeSpec := { name := "fnExactSafeYard", fn := fun _ => fun
  | [d] => { results := [.lit (.bool false)], args := [d] }
  | _ => none }
def FnExactSafeYardWrongFalsely : Prop := fnExactSafeYardRow.holds Try.pinned (OpenSpec.ofChange fnExactSafeYardWrong)

/-- 'laws.FnExactMapText': WHATEVER THE INPUT: true; the input reads as it did. -/
def fnExactMapTextSpec : ChangeSpec := { name := "fnExactMapText", fn := fun _ => fun
  | [d] => { results := [.lit (.bool true)], args := [d] }
  | _ => none }
def fnExactMapTextRow : OpenClaim := { program := "ytomchkdbhcakoaa", sum := "ffc8e336cb8396a50b64c822a1bc9950a95210e076b4c3a58139ef26f60e7164", func := "loop.example/g00961/laws.FnExactMapText", spec := "fnExactMapText", unfollowed := true, recurses := true, apart := false }
def FnExactMapTextSaid : Prop := fnExactMapTextRow.holds Try.pinned (OpenSpec.ofChange fnExactMapTextSpec)

/-- ITS FALSE NEIGHBOUR: 'it returns false'. Refute it at one input. -/
def fnExactMapTextWrong : ChangeSpec := { name := "fnExactMapText", fn := fun _ => fun
  | [d] => { results := [.lit (.bool false)], args := [d] }
  | _ => none }
def FnExactMapTextWrongFalsely : Prop := fnExactMapTextRow.holds Try.pinned (OpenSpec.ofChange fnExactMapTextWrong)

/-- 'laws.FnExactNamesIn': WHATEVER THE INPUT: true; the input reads as it did. -/
def fnExactNamesInSpec : ChangeSpec := { name := "fnExactNamesIn", fn := fun _ => fun
  | [d1, d2] => { results := [.lit (.bool true)], args := [d1, d2] }
  | _ => none }
def fnExactNamesInRow : OpenClaim := { program := "ytomchkdbhcakoaa", sum := "ffc8e336cb8396a50b64c822a1bc9950a95210e076b4c3a58139ef26f60e7164", func := "loop.example/g00961/laws.FnExactNamesIn", spec := "fnExactNamesIn", recurses := true, apart := false }
def FnExactNamesInSaid : Prop := fnExactNamesInRow.holds Try.pinned (OpenSpec.ofChange fnExactNamesInSpec)

/-- ITS FALSE NEIGHBOUR: 'it returns false'. Refute it at one input. -/
def fnExactNamesInWrong : ChangeSpec := { name := "fnExactNamesIn", fn := fun _ => fun
  | [d1, d2] => { results := [.lit (.bool false)], args := [d1, d2] }
  | _ => none }
def FnExactNamesInWrongFalsely : Prop := fnExactNamesInRow.holds Try.pinned (OpenSpec.ofChange fnExactNamesInWrong)

/- THE SECOND FORM. 'bulk': how many values and letters a reading holds, each counted each time it is reached (what is shared counts as often as it is met; a slice's spare places count too). A statement '..UptoSaid' is the law's where the arguments, and the package variables that the reading takes, are together of bulk at most 1048576: NARROWER than '..Said'. Prove '..Said' where nothing that the law and all that it calls make is longer than what came in: it says more and counts as full. Else prove '..UptoSaid'. A law counts once. -/
mutual
def uptoBulk {H : Type} : DataW H → Nat
  | .lit (.string bytes) => bytes.length + 1
  | .lit _ => 1
  | .nil => 1
  | .ptr d => uptoBulk d + 1
  | .slice elems spare => uptoBulkAll elems + uptoBulkAll spare + 1
  | .agg parts => uptoBulkAll parts + 1
  | .iface _ d => uptoBulk d + 1
  | .map entries => uptoBulkEntries entries + 1
  | .held _ => 1
def uptoBulkAll {H : Type} : List (DataW H) → Nat
  | [] => 0
  | d :: r => uptoBulk d + uptoBulkAll r
def uptoBulkEntries {H : Type} : List (Lit × DataW H) → Nat
  | [] => 0
  | x :: r => uptoBulkEntry x + uptoBulkEntries r
def uptoBulkEntry {H : Type} : Lit × DataW H → Nat
  | (.string bytes, d) => bytes.length + uptoBulk d + 1
  | (_, d) => uptoBulk d + 1
 end
def uptoSmall : (H : Type) → List (DataW H) → Bool := fun _ ds => decide (uptoBulkAll ds ≤ 1048576)
def OpenSpec.upto (s : _root_.Go.ChangeSpec) : _root_.Go.OpenSpec := { _root_.Go.OpenSpec.ofChange s with cond := some uptoSmall }

/-- 'laws.FnExactGoalsHeld', WHERE WHAT IT READS IS OF BULK AT MOST 1048576: true; the input reads as it did. -/
def fnExactGoalsHeldUptoRow : OpenClaim := { program := "ytomchkdbhcakoaa", sum := "ffc8e336cb8396a50b64c822a1bc9950a95210e076b4c3a58139ef26f60e7164", func := "loop.example/g00961/laws.FnExactGoalsHeld", spec := "fnExactGoalsHeld", unfollowed := true, recurses := true, apart := false, narrowed := true }
def FnExactGoalsHeldUptoSaid : Prop := fnExactGoalsHeldUptoRow.holds Try.pinned (OpenSpec.upto fnExactGoalsHeldSpec)

/-- 'laws.FnExactLayerOf', WHERE WHAT IT READS IS OF BULK AT MOST 1048576: true; the input reads as it did. -/
def fnExactLayerOfUptoRow : OpenClaim := { program := "ytomchkdbhcakoaa", sum := "ffc8e336cb8396a50b64c822a1bc9950a95210e076b4c3a58139ef26f60e7164", func := "loop.example/g00961/laws.FnExactLayerOf", spec := "fnExactLayerOf", unfollowed := true, recurses := true, apart := false, narrowed := true }
def FnExactLayerOfUptoSaid : Prop := fnExactLayerOfUptoRow.holds Try.pinned (OpenSpec.upto fnExactLayerOfSpec)

/-- 'laws.FnExactYardNew', WHERE WHAT IT READS IS OF BULK AT MOST 1048576: true; the input reads as it did. -/
def fnExactYardNewUptoRow : OpenClaim := { program := "ytomchkdbhcakoaa", sum := "ffc8e336cb8396a50b64c822a1bc9950a95210e076b4c3a58139ef26f60e7164", func := "loop.example/g00961/laws.FnExactYardNew", spec := "fnExactYardNew", apart := false, narrowed := true }
def FnExactYardNewUptoSaid : Prop := fnExactYardNewUptoRow.holds Try.pinned (OpenSpec.upto fnExactYardNewSpec)

/-- 'laws.FnExactJobsOk', WHERE WHAT IT READS IS OF BULK AT MOST 1048576: true; the input reads as it did. -/
def fnExactJobsOkUptoRow : OpenClaim := { program := "ytomchkdbhcakoaa", sum := "ffc8e336cb8396a50b64c822a1bc9950a95210e076b4c3a58139ef26f60e7164", func := "loop.example/g00961/laws.FnExactJobsOk", spec := "fnExactJobsOk", unfollowed := true, recurses := true, apart := false, narrowed := true }
def FnExactJobsOkUptoSaid : Prop := fnExactJobsOkUptoRow.holds Try.pinned (OpenSpec.upto fnExactJobsOkSpec)

/-- 'laws.FnExactUnderWay', WHERE WHAT IT READS IS OF BULK AT MOST 1048576: true; the input reads as it did. -/
def fnExactUnderWayUptoRow : OpenClaim := { program := "ytomchkdbhcakoaa", sum := "ffc8e336cb8396a50b64c822a1bc9950a95210e076b4c3a58139ef26f60e7164", func := "loop.example/g00961/laws.FnExactUnderWay", spec := "fnExactUnderWay", recurses := true, apart := false, narrowed := true }
def FnExactUnderWayUptoSaid : Prop := fnExactUnderWayUptoRow.holds Try.pinned (OpenSpec.upto fnExactUnderWaySpec)

/-- 'laws.FnExactHeldBy', WHERE WHAT IT READS IS OF BULK AT MOST 1048576: true; the input reads as it did. -/
def fnExactHeldByUptoRow : OpenClaim := { program := "ytomchkdbhcakoaa", sum := "ffc8e336cb8396a50b64c822a1bc9950a95210e076b4c3a58139ef26f60e7164", func := "loop.example/g00961/laws.FnExactHeldBy", spec := "fnExactHeldBy", unfollowed := true, recurses := true, apart := false, narrowed := true }
def FnExactHeldByUptoSaid : Prop := fnExactHeldByUptoRow.holds Try.pinned (OpenSpec.upto fnExactHeldBySpec)

/-- 'laws.FnExactSafeYard', WHERE WHAT IT READS IS OF BULK AT MOST 1048576: true; the input reads as it did. -/
def fnExactSafeYardUptoRow : OpenClaim := { program := "ytomchkdbhcakoaa", sum := "ffc8e336cb8396a50b64c822a1bc9950a95210e076b4c3a58139ef26f60e7164", func := "loop.example/g00961/laws.FnExactSafeYard", spec := "fnExactSafeYard", apart := false, narrowed := true }
def FnExactSafeYardUptoSaid : Prop := fnExactSafeYardUptoRow.holds Try.pinned (OpenSpec.upto fnExactSafeYardSpec)

/-- 'laws.FnExactMapText', WHERE WHAT IT READS IS OF BULK AT MOST 1048576: true; the input reads as it did. -/
def fnExactMapTextUptoRow : OpenClaim := { program := "ytomchkdbhcakoaa", sum := "ffc8e336cb8396a50b64c822a1bc9950a95210e076b4c3a58139ef26f60e7164", func := "loop.example/g00961/laws.FnExactMapText", spec := "fnExactMapText", unfollowed := true, recurses := true, apart := false, narrowed := true }
def FnExactMapTextUptoSaid : Prop := fnExactMapTextUptoRow.holds Try.pinned (OpenSpec.upto fnExactMapTextSpec)

/-- 'laws.FnExactNamesIn', WHERE WHAT IT READS IS OF BULK AT MOST 1048576: true; the input reads as it did. -/
def fnExactNamesInUptoRow : OpenClaim := { program := "ytomchkdbhcakoaa", sum := "ffc8e336cb8396a50b64c822a1bc9950a95210e076b4c3a58139ef26f60e7164", func := "loop.example/g00961/laws.FnExactNamesIn", spec := "fnExactNamesIn", recurses := true, apart := false, narrowed := true }
def FnExactNamesInUptoSaid : Prop := fnExactNamesInUptoRow.holds Try.pinned (OpenSpec.upto fnExactNamesInSpec)

end Rows
end Go.Proofs.Ytomchkdbhcakoaa
