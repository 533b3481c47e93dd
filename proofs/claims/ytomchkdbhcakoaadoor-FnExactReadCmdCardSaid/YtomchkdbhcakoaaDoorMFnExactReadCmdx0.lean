/- Made by a program of this session (out of the kit's print, with hand-made contracts): what each Go function that the law reaches computes, and that the machine's call does so. -/
import Derived.Test.YtomchkdbhcakoaaDoorProg
import Derived.Below
import Derived.Deep.Draws
import Derived.Deep.AppendLies
import Derived.Maps.AppendAt
import Derived.OwnWalk
import Derived.Laws.BytesArg
import Derived.Laws.MakeOwn
import Derived.Laws.OwnMore
import Derived.Deep.OwnRows
import Derived.Tactics
import Derived.Lib.ConvBytes
import Derived.Laws.Slices
import Derived.WalkKit
import Derived.KernelRfl
import Derived.RowKit3
import Derived.Deep.LoopGhost
import Derived.Deep.QuietTactic
import Derived.BigQuiet
import Derived.WideLaws
import Derived.Deep.DeepCutAuto
import Derived.Deep.CutBlock
import Derived.Deep.RegionHeld3
import Derived.Laws.Rows
import Derived.Lib.AppendStr
import Derived.ArgAppend
import Derived.Laws.IdiomCopy
import Derived.OrdersHeld
import Derived.Laws.BitsLemmas
import Derived.RowKit
import Derived.Test.YtomchkdbhcakoaaDoorMyHof
import Derived.Shelf.Abstract
import Derived.Lib.ItoaMem
import Derived.Shelf.Abstract
import Derived.Shelf.Strconv.ErrVarAll
import Derived.Shelf.Strconv.Itoa3
import Derived.Test.YtomchkdbhcakoaaDoorMyDoor
import Derived.Test.YtomchkdbhcakoaaDoorWWords
import Derived.Test.YtomchkdbhcakoaaDoorWLast
import Derived.Test.YtomchkdbhcakoaaDoorWTab
import Derived.Test.YtomchkdbhcakoaaDoorWFour
import Derived.Test.YtomchkdbhcakoaaDoorWQPut
import Derived.Test.YtomchkdbhcakoaaDoorWApart
import Derived.Test.YtomchkdbhcakoaaDoorWArr
import Derived.Test.YtomchkdbhcakoaaDoorWZeros
import Derived.Test.YtomchkdbhcakoaaDoorWFoot
import Derived.Test.YtomchkdbhcakoaaDoorWKept
import Derived.Test.YtomchkdbhcakoaaDoorWShare
import Derived.Test.YtomchkdbhcakoaaDoorWN
import Derived.Test.YtomchkdbhcakoaaDoorWFootNe
import Derived.Test.YtomchkdbhcakoaaDoorWAt
import Derived.Test.YtomchkdbhcakoaaDoorWEqStruct
import Derived.Test.YtomchkdbhcakoaaDoorWRepsOne
import Derived.Test.YtomchkdbhcakoaaDoorWInv
import Derived.Test.YtomchkdbhcakoaaDoorWInvWords
import Derived.Test.YtomchkdbhcakoaaDoorWGuard
import Derived.Test.YtomchkdbhcakoaaDoorWNEv
import Derived.Test.YtomchkdbhcakoaaDoorWMore
namespace Go.Proofs.YtomchkdbhcakoaaDoor.MFnExactReadCmd
open Go.RowKit Go.Proofs.YtomchkdbhcakoaaDoorW.PrintWords Go.Proofs.YtomchkdbhcakoaaDoorW.PrintLast Go.Proofs.YtomchkdbhcakoaaDoorW.PrintMore
attribute [local go_sem] max2_int min2_int max_two min_two max_three min_three max_four min_four   -- for this text's walks alone
set_option linter.unusedVariables false
set_option linter.unusedSimpArgs false



def errW : Option Int → Value
  | none => .nilIface
  | some c => .iface 0 (.int .i64 c)
theorem errW_none : errW none = .nilIface := rfl
theorem errW_some (c : Int) : errW (some c) = .iface 0 (.int .i64 c) := rfl

theorem info5 : (Tryd.prog.info? 5).map (fun i => (i.zero, i.size, i.bytes)) = some (some (.int .u8 0), 1, 1) := by kernel_rfl
theorem info9 : (Tryd.prog.info? 9).map (fun i => (i.zero, i.size, i.bytes)) = some (some (.string ⟨#[]⟩), 1, 16) := by kernel_rfl
-- the values' own types

end Go.Proofs.YtomchkdbhcakoaaDoor.MFnExactReadCmd
