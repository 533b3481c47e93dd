/-
  DERIVED. GIVEN WITH THE SEED: THE CARDS: each row of YtomchkdbhcakoaaDoorRows.lean that lists a variable, with what it lists TIED to the program's text (the seventh form; the later family's looks); each row that meets fmt, with fmt's text TOLD by the authors' own Lean function (tested against real Go, not proved from fmt's source: count such statements apart). THE CARD IS WHAT COUNTS. Prove the row's statement (the work); the ties are given (YtomchkdbhcakoaaDoorTie.lean); close each card by the builder's one call (the guide's Derived/Test/ToyasCard.lean, 'card_holds'). Laid BY PROGRAM, IN A SANDBOX (cutbox-door.mjs). By AI agents, Wed Nov 11 2026. No macro, syntax, notation, axiom, sorry.
-/
import Derived.Test.YtomchkdbhcakoaaDoorRows
import GoSem.ClaimSeven
namespace Go.Proofs.YtomchkdbhcakoaaDoor
namespace Rows

/-- THE TIED CARD OF 'laws.FnExactReplyText'. -/
def fnExactReplyTextCard : Claim7 := { stood := { row := fnExactReplyTextRow, standIns := [], harness := (true, "1215429382b9cec35786b33d1646a61370ef23d7bc489a64da1f5bd551c6bd7b"), looks := true }, kinds := [], alts := [], laidByText := true, laidKinds := [.data, .data, .data], laidTests := true, laidLooks := .later }
def FnExactReplyTextCardSaid : Prop := Claim7.holds Tryd.pinned (.plain (OpenSpec.ofChange fnExactReplyTextSpec)) fnExactReplyTextCard

/-- THE TIED CARD OF 'laws.FnExactNumsText'. -/
def fnExactNumsTextCard : Claim7 := { stood := { row := fnExactNumsTextRow, standIns := [], harness := (true, "1215429382b9cec35786b33d1646a61370ef23d7bc489a64da1f5bd551c6bd7b"), looks := true }, kinds := [], alts := [], laidByText := true, laidKinds := [.data, .data, .data], laidTests := true, laidLooks := .later }
def FnExactNumsTextCardSaid : Prop := Claim7.holds Tryd.pinned (.plain (OpenSpec.ofChange fnExactNumsTextSpec)) fnExactNumsTextCard

/-- THE TIED CARD OF 'laws.FnExactReadCmd'. -/
def fnExactReadCmdCard : Claim7 := { stood := { row := fnExactReadCmdRow, standIns := [], harness := (true, "1215429382b9cec35786b33d1646a61370ef23d7bc489a64da1f5bd551c6bd7b"), looks := true }, kinds := [], alts := [], laidByText := true, laidKinds := [.data, .data, .data, .sentinel, .sentinel], laidTests := true, laidLooks := .later }
def FnExactReadCmdCardSaid : Prop := Claim7.holds Tryd.pinned (.plain (OpenSpec.ofChange fnExactReadCmdSpec)) fnExactReadCmdCard

/-- THE SECOND FORM's CARD OF 'laws.FnExactReplyText'. -/
def fnExactReplyTextUptoCard : Claim7 := { stood := { row := fnExactReplyTextUptoRow, standIns := [], harness := (true, "1215429382b9cec35786b33d1646a61370ef23d7bc489a64da1f5bd551c6bd7b"), looks := true }, kinds := [], alts := [], laidByText := true, laidKinds := [.data, .data, .data], laidTests := true, laidLooks := .later }
def FnExactReplyTextUptoCardSaid : Prop := Claim7.holds Tryd.pinned (.plain (OpenSpec.upto fnExactReplyTextSpec)) fnExactReplyTextUptoCard

/-- THE SECOND FORM's CARD OF 'laws.FnExactNumsText'. -/
def fnExactNumsTextUptoCard : Claim7 := { stood := { row := fnExactNumsTextUptoRow, standIns := [], harness := (true, "1215429382b9cec35786b33d1646a61370ef23d7bc489a64da1f5bd551c6bd7b"), looks := true }, kinds := [], alts := [], laidByText := true, laidKinds := [.data, .data, .data], laidTests := true, laidLooks := .later }
def FnExactNumsTextUptoCardSaid : Prop := Claim7.holds Tryd.pinned (.plain (OpenSpec.upto fnExactNumsTextSpec)) fnExactNumsTextUptoCard

/-- THE SECOND FORM's CARD OF 'laws.FnExactReadCmd'. -/
def fnExactReadCmdUptoCard : Claim7 := { stood := { row := fnExactReadCmdUptoRow, standIns := [], harness := (true, "1215429382b9cec35786b33d1646a61370ef23d7bc489a64da1f5bd551c6bd7b"), looks := true }, kinds := [], alts := [], laidByText := true, laidKinds := [.data, .data, .data, .sentinel, .sentinel], laidTests := true, laidLooks := .later }
def FnExactReadCmdUptoCardSaid : Prop := Claim7.holds Tryd.pinned (.plain (OpenSpec.upto fnExactReadCmdSpec)) fnExactReadCmdUptoCard
end Rows
end Go.Proofs.YtomchkdbhcakoaaDoor
