/-
  No cell of these rows narrows 'for every input' (looked for: loops, veiled, ifaces, maps, wideKeys, modest, calm, conditions, laid).
  DERIVED. THE GIVEN ROWS OF THIS SEAT. 11 by the template 'for every input the law returns true; each argument reads behind the call as it read before'; 0 by the template 'total and deterministic' (their statements: YtpkffapjplebgaaTotals.lean).
  GIVEN WITH THE SEED: the statements are not yours to turn. If you find one false, say at which input.
  Laid BY PROGRAM, IN A SANDBOX (cutbox-rows.mjs): the forced cells as the released guide's own fill.sh prints them over the translation 4ac9b15061d89b9e… (all of the seat's roots in one cut). By AI agents, Wed Nov 11 2026. No macro, syntax, notation, axiom, sorry.
-/
import Derived.Test.YtpkffapjplebgaaChecked
import GoSem.Claim
import GoSem.ClaimJoined
import GoSem.ClaimMapViews
import Derived.JoinedTies
import Derived.KernelRfl
namespace Go.Proofs.Ytpkffapjplebgaa
/- THE CELL 'sum', in the pinned program and in every row, IS THE sha256 OF THE DUMP (.gsa) THAT YtpkffapjplebgaaProg.lean LOADS. Nothing in Lean hashes anything: it is a label: what it is worth is what the hold of that sum in a sandbox is worth. -/
noncomputable def Try.pinned : Pinned := { name := "ytpkffapjplebgaa", sum := "4ac9b15061d89b9ea419af5078feb14bb493344779e923044342a3b6edb03807", checked := Try.checked }
namespace Rows
def none {H : Type} : Left H := { results := [], args := [] }

/-- 'laws.FnExactFrameOf': WHATEVER THE INPUT: true; the input reads as it did. -/
def fnExactFrameOfSpec : ChangeSpec := { name := "fnExactFrameOf", fn := fun _ => fun
  | [d] => { results := [.lit (.bool true)], args := [d] }
  | _ => none }
def fnExactFrameOfRow : OpenClaim := { program := "ytpkffapjplebgaa", sum := "4ac9b15061d89b9ea419af5078feb14bb493344779e923044342a3b6edb03807", func := "loop.example/g00961/laws.FnExactFrameOf", spec := "fnExactFrameOf", apart := false }
def FnExactFrameOfSaid : Prop := fnExactFrameOfRow.holds Try.pinned (OpenSpec.ofChange fnExactFrameOfSpec)

/-- ITS FALSE NEIGHBOUR: 'it returns false'. Refute it at one input. -/
def fnExactFrameOfWrong : ChangeSpec := { name := "fnExactFrameOf", fn := fun _ => fun
  | [d] => { results := [.lit (.bool false)], args := [d] }
  | _ => none }
def FnExactFrameOfWrongFalsely : Prop := fnExactFrameOfRow.holds Try.pinned (OpenSpec.ofChange fnExactFrameOfWrong)

/-- 'laws.FnExactLinkOf': WHATEVER THE INPUT: true; the input reads as it did. -/
def fnExactLinkOfSpec : ChangeSpec := { name := "fnExactLinkOf", fn := fun _ => fun
  | [d1, d2] => { results := [.lit (.bool true)], args := [d1, d2] }
  | _ => none }
def fnExactLinkOfRow : OpenClaim := { program := "ytpkffapjplebgaa", sum := "4ac9b15061d89b9ea419af5078feb14bb493344779e923044342a3b6edb03807", func := "loop.example/g00961/laws.FnExactLinkOf", spec := "fnExactLinkOf", apart := false }
def FnExactLinkOfSaid : Prop := fnExactLinkOfRow.holds Try.pinned (OpenSpec.ofChange fnExactLinkOfSpec)

/-- ITS FALSE NEIGHBOUR: 'it returns false'. Refute it at one input. -/
def fnExactLinkOfWrong : ChangeSpec := { name := "fnExactLinkOf", fn := fun _ => fun
  | [d1, d2] => { results := [.lit (.bool false)], args := [d1, d2] }
  | _ => none }
def FnExactLinkOfWrongFalsely : Prop := fnExactLinkOfRow.holds Try.pinned (OpenSpec.ofChange fnExactLinkOfWrong)

/-- 'laws.FnExactCmdIn': WHATEVER THE INPUT: true; the input reads as it did. -/
def fnExactCmdInSpec : ChangeSpec := { name := "fnExactCmdIn", fn := fun _ => fun
  | [d] => { results := [.lit (.bool true)], args := [d] }
  | _ => none }
def fnExactCmdInRow : OpenClaim := { program := "ytpkffapjplebgaa", sum := "4ac9b15061d89b9ea419af5078feb14bb493344779e923044342a3b6edb03807", func := "loop.example/g00961/laws.FnExactCmdIn", spec := "fnExactCmdIn", apart := false }
def FnExactCmdInSaid : Prop := fnExactCmdInRow.holds Try.pinned (OpenSpec.ofChange fnExactCmdInSpec)

/-- ITS FALSE NEIGHBOUR: 'it returns false'. Refute it at one input. -/
def fnExactCmdInWrong : ChangeSpec := { name := "fnExactCmdIn", fn := fun _ => fun
  | [d] => { results := [.lit (.bool false)], args := [d] }
  | _ => none }
def FnExactCmdInWrongFalsely : Prop := fnExactCmdInRow.holds Try.pinned (OpenSpec.ofChange fnExactCmdInWrong)

/-- 'laws.FnExactTicksIn': WHATEVER THE INPUT: true; the input reads as it did. -/
def fnExactTicksInSpec : ChangeSpec := { name := "fnExactTicksIn", fn := fun _ => fun
  | [d] => { results := [.lit (.bool true)], args := [d] }
  | _ => none }
def fnExactTicksInRow : OpenClaim := { program := "ytpkffapjplebgaa", sum := "4ac9b15061d89b9ea419af5078feb14bb493344779e923044342a3b6edb03807", func := "loop.example/g00961/laws.FnExactTicksIn", spec := "fnExactTicksIn", apart := false }
def FnExactTicksInSaid : Prop := fnExactTicksInRow.holds Try.pinned (OpenSpec.ofChange fnExactTicksInSpec)

/-- ITS FALSE NEIGHBOUR: 'it returns false'. Refute it at one input. -/
def fnExactTicksInWrong : ChangeSpec := { name := "fnExactTicksIn", fn := fun _ => fun
  | [d] => { results := [.lit (.bool false)], args := [d] }
  | _ => none }
def FnExactTicksInWrongFalsely : Prop := fnExactTicksInRow.holds Try.pinned (OpenSpec.ofChange fnExactTicksInWrong)

/-- 'laws.FnExactBalancesIn': WHATEVER THE INPUT: true; the input reads as it did. -/
def fnExactBalancesInSpec : ChangeSpec := { name := "fnExactBalancesIn", fn := fun _ => fun
  | [d1, d2] => { results := [.lit (.bool true)], args := [d1, d2] }
  | _ => none }
def fnExactBalancesInRow : OpenClaim := { program := "ytpkffapjplebgaa", sum := "4ac9b15061d89b9ea419af5078feb14bb493344779e923044342a3b6edb03807", func := "loop.example/g00961/laws.FnExactBalancesIn", spec := "fnExactBalancesIn", apart := false }
def FnExactBalancesInSaid : Prop := fnExactBalancesInRow.holds Try.pinned (OpenSpec.ofChange fnExactBalancesInSpec)

/-- ITS FALSE NEIGHBOUR: 'it returns false'. Refute it at one input. -/
def fnExactBalancesInWrong : ChangeSpec := { name := "fnExactBalancesIn", fn := fun _ => fun
  | [d1, d2] => { results := [.lit (.bool false)], args := [d1, d2] }
  | _ => none }
def FnExactBalancesInWrongFalsely : Prop := fnExactBalancesInRow.holds Try.pinned (OpenSpec.ofChange fnExactBalancesInWrong)

/-- 'laws.FnExactSetupOk': WHATEVER THE INPUT: true; the input reads as it did. -/
def fnExactSetupOkSpec : ChangeSpec := { name := "fnExactSetupOk", fn := fun _ => fun
  | [d] => { results := [.lit (.bool true)], args := [d] }
  | _ => none }
def fnExactSetupOkRow : OpenClaim := { program := "ytpkffapjplebgaa", sum := "4ac9b15061d89b9ea419af5078feb14bb493344779e923044342a3b6edb03807", func := "loop.example/g00961/laws.FnExactSetupOk", spec := "fnExactSetupOk", apart := false }
def FnExactSetupOkSaid : Prop := fnExactSetupOkRow.holds Try.pinned (OpenSpec.ofChange fnExactSetupOkSpec)

/-- ITS FALSE NEIGHBOUR: 'it returns false'. Refute it at one input. -/
def fnExactSetupOkWrong : ChangeSpec := { name := "fnExactSetupOk", fn := fun _ => fun
  | [d] => { results := [.lit (.bool false)], args := [d] }
  | _ => none }
def FnExactSetupOkWrongFalsely : Prop := fnExactSetupOkRow.holds Try.pinned (OpenSpec.ofChange fnExactSetupOkWrong)

/-- 'laws.FnFrames': WHATEVER THE INPUT: true; the input reads as it did. -/
def fnFramesSpec : ChangeSpec := { name := "fnFrames", fn := fun _ => fun
  | [d] => { results := [.lit (.bool true)], args := [d] }
  | _ => none }
def fnFramesRow : OpenClaim := { program := "ytpkffapjplebgaa", sum := "4ac9b15061d89b9ea419af5078feb14bb493344779e923044342a3b6edb03807", func := "loop.example/g00961/laws.FnFrames", spec := "fnFrames", apart := false }
def FnFramesSaid : Prop := fnFramesRow.holds Try.pinned (OpenSpec.ofChange fnFramesSpec)

/-- ITS FALSE NEIGHBOUR: 'it returns false'. Refute it at one input. -/
def fnFramesWrong : ChangeSpec := { name := "fnFrames", fn := fun _ => fun
  | [d] => { results := [.lit (.bool false)], args := [d] }
  | _ => none }
def FnFramesWrongFalsely : Prop := fnFramesRow.holds Try.pinned (OpenSpec.ofChange fnFramesWrong)

/-- 'laws.FnExactJournalOf': WHATEVER THE INPUT: true; the input reads as it did. -/
def fnExactJournalOfSpec : ChangeSpec := { name := "fnExactJournalOf", fn := fun _ => fun
  | [d] => { results := [.lit (.bool true)], args := [d] }
  | _ => none }
def fnExactJournalOfRow : OpenClaim := { program := "ytpkffapjplebgaa", sum := "4ac9b15061d89b9ea419af5078feb14bb493344779e923044342a3b6edb03807", func := "loop.example/g00961/laws.FnExactJournalOf", spec := "fnExactJournalOf", apart := false }
def FnExactJournalOfSaid : Prop := fnExactJournalOfRow.holds Try.pinned (OpenSpec.ofChange fnExactJournalOfSpec)

/-- ITS FALSE NEIGHBOUR: 'it returns false'. Refute it at one input. -/
def fnExactJournalOfWrong : ChangeSpec := { name := "fnExactJournalOf", fn := fun _ => fun
  | [d] => { results := [.lit (.bool false)], args := [d] }
  | _ => none }
def FnExactJournalOfWrongFalsely : Prop := fnExactJournalOfRow.holds Try.pinned (OpenSpec.ofChange fnExactJournalOfWrong)

/-- 'laws.FnExactJournalMore': WHATEVER THE INPUT: true; the input reads as it did. -/
def fnExactJournalMoreSpec : ChangeSpec := { name := "fnExactJournalMore", fn := fun _ => fun
  | [d1, d2] => { results := [.lit (.bool true)], args := [d1, d2] }
  | _ => none }
def fnExactJournalMoreRow : OpenClaim := { program := "ytpkffapjplebgaa", sum := "4ac9b15061d89b9ea419af5078feb14bb493344779e923044342a3b6edb03807", func := "loop.example/g00961/laws.FnExactJournalMore", spec := "fnExactJournalMore", apart := false }
def FnExactJournalMoreSaid : Prop := fnExactJournalMoreRow.holds Try.pinned (OpenSpec.ofChange fnExactJournalMoreSpec)

/-- ITS FALSE NEIGHBOUR: 'it returns false'. Refute it at one input. -/
def fnExactJournalMoreWrong : ChangeSpec := { name := "fnExactJournalMore", fn := fun _ => fun
  | [d1, d2] => { results := [.lit (.bool false)], args := [d1, d2] }
  | _ => none }
def FnExactJournalMoreWrongFalsely : Prop := fnExactJournalMoreRow.holds Try.pinned (OpenSpec.ofChange fnExactJournalMoreWrong)

/-- 'laws.FnExactDemandsIn': WHATEVER THE INPUT: true; the input reads as it did. -/
def fnExactDemandsInSpec : ChangeSpec := { name := "fnExactDemandsIn", fn := fun _ => fun
  | [d1, d2, d3] => { results := [.lit (.bool true)], args := [d1, d2, d3] }
  | _ => none }
def fnExactDemandsInRow : OpenClaim := { program := "ytpkffapjplebgaa", sum := "4ac9b15061d89b9ea419af5078feb14bb493344779e923044342a3b6edb03807", func := "loop.example/g00961/laws.FnExactDemandsIn", spec := "fnExactDemandsIn", apart := false }
def FnExactDemandsInSaid : Prop := fnExactDemandsInRow.holds Try.pinned (OpenSpec.ofChange fnExactDemandsInSpec)

/-- ITS FALSE NEIGHBOUR: 'it returns false'. Refute it at one input. -/
def fnExactDemandsInWrong : ChangeSpec := { name := "fnExactDemandsIn", fn := fun _ => fun
  | [d1, d2, d3] => { results := [.lit (.bool false)], args := [d1, d2, d3] }
  | _ => none }
def FnExactDemandsInWrongFalsely : Prop := fnExactDemandsInRow.holds Try.pinned (OpenSpec.ofChange fnExactDemandsInWrong)

/-- 'laws.FnExactJournalIn': WHATEVER THE INPUT: true; the input reads as it did. -/
def fnExactJournalInSpec : ChangeSpec := { name := "fnExactJournalIn", fn := fun _ => fun
  | [d] => { results := [.lit (.bool true)], args := [d] }
  | _ => none }
def fnExactJournalInRow : OpenClaim := { program := "ytpkffapjplebgaa", sum := "4ac9b15061d89b9ea419af5078feb14bb493344779e923044342a3b6edb03807", func := "loop.example/g00961/laws.FnExactJournalIn", spec := "fnExactJournalIn", apart := false }
def FnExactJournalInSaid : Prop := fnExactJournalInRow.holds Try.pinned (OpenSpec.ofChange fnExactJournalInSpec)

/-- ITS FALSE NEIGHBOUR: 'it returns false'. Refute it at one input. -/
def fnExactJournalInWrong : ChangeSpec := { name := "fnExactJournalIn", fn := fun _ => fun
  | [d] => { results := [.lit (.bool false)], args := [d] }
  | _ => none }
def FnExactJournalInWrongFalsely : Prop := fnExactJournalInRow.holds Try.pinned (OpenSpec.ofChange fnExactJournalInWrong)

/- THE SECOND FORM. 'bulk': how many values and letters a reading holds, each counted each time it is reached (what is shared counts as often as it is met; a slice's spare places count too). A statement '..UptoSaid' is the law's where the arguments, and the package variables that the reading takes, are together of bulk at most 1048576: NARROWER than '..Said'. Prove '..Said' where nothing that the law and all that it calls make is longer than what came in: it says more and counts as full. Else prove '..UptoSaid'. A law counts once. -/
mutual
def uptoBulk {H : Type} : DataW H → Nat
  | .lit (.string bytes) => bytes.length + 1
  | .lit _ => 1
  | .nil => 1
  | .ptr d => uptoBulk d + 1
  | .slice elems spare => uptoBulkAll elems + uptoBulkAll spare + 1
  | .agg parts => uptoBulkAll parts + 1
  | .iface _ d => uptoBulk d + 1
  | .map entries => uptoBulkEntries entries + 1
  | .held _ => 1
def uptoBulkAll {H : Type} : List (DataW H) → Nat
  | [] => 0
  | d :: r => uptoBulk d + uptoBulkAll r
def uptoBulkEntries {H : Type} : List (Lit × DataW H) → Nat
  | [] => 0
  | x :: r => uptoBulkEntry x + uptoBulkEntries r
def uptoBulkEntry {H : Type} : Lit × DataW H → Nat
  | (.string bytes, d) => bytes.length + uptoBulk d + 1
  | (_, d) => uptoBulk d + 1
 end
def uptoSmall : (H : Type) → List (DataW H) → Bool := fun _ ds => decide (uptoBulkAll ds ≤ 1048576)
def OpenSpec.upto (s : _root_.Go.ChangeSpec) : _root_.Go.OpenSpec := { _root_.Go.OpenSpec.ofChange s with cond := some uptoSmall }

/-- 'laws.FnExactFrameOf', WHERE WHAT IT READS IS OF BULK AT MOST 1048576: true; the input reads as it did. -/
def fnExactFrameOfUptoRow : OpenClaim := { program := "ytpkffapjplebgaa", sum := "4ac9b15061d89b9ea419af5078feb14bb493344779e923044342a3b6edb03807", func := "loop.example/g00961/laws.FnExactFrameOf", spec := "fnExactFrameOf", apart := false, narrowed := true }
def FnExactFrameOfUptoSaid : Prop := fnExactFrameOfUptoRow.holds Try.pinned (OpenSpec.upto fnExactFrameOfSpec)

/-- 'laws.FnExactLinkOf', WHERE WHAT IT READS IS OF BULK AT MOST 1048576: true; the input reads as it did. -/
def fnExactLinkOfUptoRow : OpenClaim := { program := "ytpkffapjplebgaa", sum := "4ac9b15061d89b9ea419af5078feb14bb493344779e923044342a3b6edb03807", func := "loop.example/g00961/laws.FnExactLinkOf", spec := "fnExactLinkOf", apart := false, narrowed := true }
def FnExactLinkOfUptoSaid : Prop := fnExactLinkOfUptoRow.holds Try.pinned (OpenSpec.upto fnExactLinkOfSpec)

/-- 'laws.FnExactCmdIn', WHERE WHAT IT READS IS OF BULK AT MOST 1048576: true; the input reads as it did. -/
def fnExactCmdInUptoRow : OpenClaim := { program := "ytpkffapjplebgaa", sum := "4ac9b15061d89b9ea419af5078feb14bb493344779e923044342a3b6edb03807", func := "loop.example/g00961/laws.FnExactCmdIn", spec := "fnExactCmdIn", apart := false, narrowed := true }
def FnExactCmdInUptoSaid : Prop := fnExactCmdInUptoRow.holds Try.pinned (OpenSpec.upto fnExactCmdInSpec)

/-- 'laws.FnExactTicksIn', WHERE WHAT IT READS IS OF BULK AT MOST 1048576: true; the input reads as it did. -/
def fnExactTicksInUptoRow : OpenClaim := { program := "ytpkffapjplebgaa", sum := "4ac9b15061d89b9ea419af5078feb14bb493344779e923044342a3b6edb03807", func := "loop.example/g00961/laws.FnExactTicksIn", spec := "fnExactTicksIn", apart := false, narrowed := true }
def FnExactTicksInUptoSaid : Prop := fnExactTicksInUptoRow.holds Try.pinned (OpenSpec.upto fnExactTicksInSpec)

/-- 'laws.FnExactBalancesIn', WHERE WHAT IT READS IS OF BULK AT MOST 1048576: true; the input reads as it did. -/
def fnExactBalancesInUptoRow : OpenClaim := { program := "ytpkffapjplebgaa", sum := "4ac9b15061d89b9ea419af5078feb14bb493344779e923044342a3b6edb03807", func := "loop.example/g00961/laws.FnExactBalancesIn", spec := "fnExactBalancesIn", apart := false, narrowed := true }
def FnExactBalancesInUptoSaid : Prop := fnExactBalancesInUptoRow.holds Try.pinned (OpenSpec.upto fnExactBalancesInSpec)

/-- 'laws.FnExactSetupOk', WHERE WHAT IT READS IS OF BULK AT MOST 1048576: true; the input reads as it did. -/
def fnExactSetupOkUptoRow : OpenClaim := { program := "ytpkffapjplebgaa", sum := "4ac9b15061d89b9ea419af5078feb14bb493344779e923044342a3b6edb03807", func := "loop.example/g00961/laws.FnExactSetupOk", spec := "fnExactSetupOk", apart := false, narrowed := true }
def FnExactSetupOkUptoSaid : Prop := fnExactSetupOkUptoRow.holds Try.pinned (OpenSpec.upto fnExactSetupOkSpec)

/-- 'laws.FnFrames', WHERE WHAT IT READS IS OF BULK AT MOST 1048576: true; the input reads as it did. -/
def fnFramesUptoRow : OpenClaim := { program := "ytpkffapjplebgaa", sum := "4ac9b15061d89b9ea419af5078feb14bb493344779e923044342a3b6edb03807", func := "loop.example/g00961/laws.FnFrames", spec := "fnFrames", apart := false, narrowed := true }
def FnFramesUptoSaid : Prop := fnFramesUptoRow.holds Try.pinned (OpenSpec.upto fnFramesSpec)

/-- 'laws.FnExactJournalOf', WHERE WHAT IT READS IS OF BULK AT MOST 1048576: true; the input reads as it did. -/
def fnExactJournalOfUptoRow : OpenClaim := { program := "ytpkffapjplebgaa", sum := "4ac9b15061d89b9ea419af5078feb14bb493344779e923044342a3b6edb03807", func := "loop.example/g00961/laws.FnExactJournalOf", spec := "fnExactJournalOf", apart := false, narrowed := true }
def FnExactJournalOfUptoSaid : Prop := fnExactJournalOfUptoRow.holds Try.pinned (OpenSpec.upto fnExactJournalOfSpec)

/-- 'laws.FnExactJournalMore', WHERE WHAT IT READS IS OF BULK AT MOST 1048576: true; the input reads as it did. -/
def fnExactJournalMoreUptoRow : OpenClaim := { program := "ytpkffapjplebgaa", sum := "4ac9b15061d89b9ea419af5078feb14bb493344779e923044342a3b6edb03807", func := "loop.example/g00961/laws.FnExactJournalMore", spec := "fnExactJournalMore", apart := false, narrowed := true }
def FnExactJournalMoreUptoSaid : Prop := fnExactJournalMoreUptoRow.holds Try.pinned (OpenSpec.upto fnExactJournalMoreSpec)

/-- 'laws.FnExactDemandsIn', WHERE WHAT IT READS IS OF BULK AT MOST 1048576: true; the input reads as it did. -/
def fnExactDemandsInUptoRow : OpenClaim := { program := "ytpkffapjplebgaa", sum := "4ac9b15061d89b9ea419af5078feb14bb493344779e923044342a3b6edb03807", func := "loop.example/g00961/laws.FnExactDemandsIn", spec := "fnExactDemandsIn", apart := false, narrowed := true }
def FnExactDemandsInUptoSaid : Prop := fnExactDemandsInUptoRow.holds Try.pinned (OpenSpec.upto fnExactDemandsInSpec)

/-- 'laws.FnExactJournalIn', WHERE WHAT IT READS IS OF BULK AT MOST 1048576: true; the input reads as it did. -/
def fnExactJournalInUptoRow : OpenClaim := { program := "ytpkffapjplebgaa", sum := "4ac9b15061d89b9ea419af5078feb14bb493344779e923044342a3b6edb03807", func := "loop.example/g00961/laws.FnExactJournalIn", spec := "fnExactJournalIn", apart := false, narrowed := true }
def FnExactJournalInUptoSaid : Prop := fnExactJournalInUptoRow.holds Try.pinned (OpenSpec.upto fnExactJournalInSpec)

end Rows
end Go.Proofs.Ytpkffapjplebgaa
