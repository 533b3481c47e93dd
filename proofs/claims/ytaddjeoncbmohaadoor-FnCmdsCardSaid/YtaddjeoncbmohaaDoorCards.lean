/-
  DERIVED. GIVEN WITH THE SEED: THE CARDS: each row of YtaddjeoncbmohaaDoorRows.lean that lists a variable, with what it lists TIED to the program's text (the seventh form; the later family's looks); each row that meets fmt, with fmt's text TOLD by the authors' own Lean function (tested against real Go, not proved from fmt's source: count such statements apart). THE CARD IS WHAT COUNTS. Prove the row's statement (the work); the ties are given (YtaddjeoncbmohaaDoorTie.lean); close each card by the builder's one call (the guide's Derived/Test/ToyasCard.lean, 'card_holds'). Laid BY PROGRAM, IN A SANDBOX (cutbox-door.mjs). By AI agents, Wed Nov 11 2026. No macro, syntax, notation, axiom, sorry.
-/
import Derived.Test.YtaddjeoncbmohaaDoorRows
import GoSem.ClaimSeven
namespace Go.Proofs.YtaddjeoncbmohaaDoor
namespace Rows

/-- THE TIED CARD OF 'laws.FnExactReadNums'. -/
def fnExactReadNumsCard : Claim7 := { stood := { row := fnExactReadNumsRow, standIns := [], harness := (true, "6b07fb4e481fce2ffbf52d1299f0f07c01c8f0eb722f24ce2ff4b7ed40869347"), looks := true }, kinds := [], alts := [], laidByText := true, laidKinds := [.data, .data, .data, .data, .sentinel, .sentinel, .pinned], laidTests := true, laidLooks := .later }
def FnExactReadNumsCardSaid : Prop := Claim7.holds Tryd.pinned (.plain (OpenSpec.ofChange fnExactReadNumsSpec)) fnExactReadNumsCard

/-- THE TIED CARD OF 'laws.FnCmds'. -/
def fnCmdsCard : Claim7 := { stood := { row := fnCmdsRow, standIns := [], harness := (true, "6b07fb4e481fce2ffbf52d1299f0f07c01c8f0eb722f24ce2ff4b7ed40869347"), looks := true }, kinds := [], alts := [], laidByText := true, laidKinds := [.data, .data, .data, .data, .sentinel, .sentinel, .pinned], laidTests := true, laidLooks := .later }
def FnCmdsCardSaid : Prop := Claim7.holds Tryd.pinned (.plain (OpenSpec.ofChange fnCmdsSpec)) fnCmdsCard

/-- THE TIED CARD OF 'laws.FnExactReadScript'. -/
def fnExactReadScriptCard : Claim7 := { stood := { row := fnExactReadScriptRow, standIns := [], harness := (true, "6b07fb4e481fce2ffbf52d1299f0f07c01c8f0eb722f24ce2ff4b7ed40869347"), looks := true }, kinds := [], alts := [], laidByText := true, laidKinds := [.data, .data, .data, .data, .sentinel, .sentinel, .pinned], laidTests := true, laidLooks := .later }
def FnExactReadScriptCardSaid : Prop := Claim7.holds Tryd.pinned (.plain (OpenSpec.ofChange fnExactReadScriptSpec)) fnExactReadScriptCard

/-- THE SECOND FORM's CARD OF 'laws.FnExactReadNums'. -/
def fnExactReadNumsUptoCard : Claim7 := { stood := { row := fnExactReadNumsUptoRow, standIns := [], harness := (true, "6b07fb4e481fce2ffbf52d1299f0f07c01c8f0eb722f24ce2ff4b7ed40869347"), looks := true }, kinds := [], alts := [], laidByText := true, laidKinds := [.data, .data, .data, .data, .sentinel, .sentinel, .pinned], laidTests := true, laidLooks := .later }
def FnExactReadNumsUptoCardSaid : Prop := Claim7.holds Tryd.pinned (.plain (OpenSpec.upto fnExactReadNumsSpec)) fnExactReadNumsUptoCard

/-- THE SECOND FORM's CARD OF 'laws.FnCmds'. -/
def fnCmdsUptoCard : Claim7 := { stood := { row := fnCmdsUptoRow, standIns := [], harness := (true, "6b07fb4e481fce2ffbf52d1299f0f07c01c8f0eb722f24ce2ff4b7ed40869347"), looks := true }, kinds := [], alts := [], laidByText := true, laidKinds := [.data, .data, .data, .data, .sentinel, .sentinel, .pinned], laidTests := true, laidLooks := .later }
def FnCmdsUptoCardSaid : Prop := Claim7.holds Tryd.pinned (.plain (OpenSpec.upto fnCmdsSpec)) fnCmdsUptoCard

/-- THE SECOND FORM's CARD OF 'laws.FnExactReadScript'. -/
def fnExactReadScriptUptoCard : Claim7 := { stood := { row := fnExactReadScriptUptoRow, standIns := [], harness := (true, "6b07fb4e481fce2ffbf52d1299f0f07c01c8f0eb722f24ce2ff4b7ed40869347"), looks := true }, kinds := [], alts := [], laidByText := true, laidKinds := [.data, .data, .data, .data, .sentinel, .sentinel, .pinned], laidTests := true, laidLooks := .later }
def FnExactReadScriptUptoCardSaid : Prop := Claim7.holds Tryd.pinned (.plain (OpenSpec.upto fnExactReadScriptSpec)) fnExactReadScriptUptoCard
end Rows
end Go.Proofs.YtaddjeoncbmohaaDoor
