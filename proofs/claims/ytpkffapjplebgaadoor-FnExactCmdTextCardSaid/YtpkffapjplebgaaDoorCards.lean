/-
  DERIVED. GIVEN WITH THE SEED: THE CARDS: each row of YtpkffapjplebgaaDoorRows.lean that lists a variable, with what it lists TIED to the program's text (the seventh form; the later family's looks); each row that meets fmt, with fmt's text TOLD by the authors' own Lean function (tested against real Go, not proved from fmt's source: count such statements apart). THE CARD IS WHAT COUNTS. Prove the row's statement (the work); the ties are given (YtpkffapjplebgaaDoorTie.lean); close each card by the builder's one call (the guide's Derived/Test/ToyasCard.lean, 'card_holds'). Laid BY PROGRAM, IN A SANDBOX (cutbox-door.mjs). By AI agents, Wed Nov 11 2026. No macro, syntax, notation, axiom, sorry.
-/
import Derived.Test.YtpkffapjplebgaaDoorRows
import GoSem.ClaimSeven
namespace Go.Proofs.YtpkffapjplebgaaDoor
namespace Rows

/-- THE TIED CARD OF 'laws.FnExactCmdText'. -/
def fnExactCmdTextCard : Claim7 := { stood := { row := fnExactCmdTextRow, standIns := [], harness := (true, "f342283aabe8799ad7f98bed240ca604acd5c27b9240d575aa04bd18c1864266"), looks := false }, kinds := [], alts := [], laidByText := true, laidKinds := [.data, .data, .data], laidTests := true, laidLooks := .later }
def FnExactCmdTextCardSaid : Prop := Claim7.holds Tryd.pinned (.plain (OpenSpec.ofChange fnExactCmdTextSpec)) fnExactCmdTextCard

/-- THE SECOND FORM's CARD OF 'laws.FnExactCmdText'. -/
def fnExactCmdTextUptoCard : Claim7 := { stood := { row := fnExactCmdTextUptoRow, standIns := [], harness := (true, "f342283aabe8799ad7f98bed240ca604acd5c27b9240d575aa04bd18c1864266"), looks := false }, kinds := [], alts := [], laidByText := true, laidKinds := [.data, .data, .data], laidTests := true, laidLooks := .later }
def FnExactCmdTextUptoCardSaid : Prop := Claim7.holds Tryd.pinned (.plain (OpenSpec.upto fnExactCmdTextSpec)) fnExactCmdTextUptoCard
end Rows
end Go.Proofs.YtpkffapjplebgaaDoor
