/- Made by a program of this session (out of the kit's print, with hand-made contracts): what each Go function that the law reaches computes, and that the machine's call does so. -/
import Derived.Test.YtaddjeoncbmohaaDoorProg
import Derived.Below
import Derived.Deep.Draws
import Derived.Deep.AppendLies
import Derived.Maps.AppendAt
import Derived.OwnWalk
import Derived.Laws.BytesArg
import Derived.Laws.MakeOwn
import Derived.Laws.OwnMore
import Derived.Deep.OwnRows
import Derived.Tactics
import Derived.Lib.ConvBytes
import Derived.Laws.Slices
import Derived.WalkKit
import Derived.KernelRfl
import Derived.RowKit3
import Derived.Deep.LoopGhost
import Derived.Deep.QuietTactic
import Derived.BigQuiet
import Derived.WideLaws
import Derived.Deep.DeepCutAuto
import Derived.Deep.CutBlock
import Derived.Deep.RegionHeld3
import Derived.Laws.Rows
import Derived.Lib.AppendStr
import Derived.ArgAppend
import Derived.Laws.IdiomCopy
import Derived.OrdersHeld
import Derived.Laws.BitsLemmas
import Derived.RowKit
import Derived.Test.YtaddjeoncbmohaaDoorMyHof
import Derived.Shelf.Abstract
import Derived.Shelf.Abstract
import Derived.Shelf.Strconv.ErrVarAll
import Derived.Shelf.Strconv.Itoa3
import Derived.Shelf.Strings.Split
import Derived.Test.YtaddjeoncbmohaaDoorMyDoor
import Derived.Test.YtaddjeoncbmohaaDoorWWords
import Derived.Test.YtaddjeoncbmohaaDoorWLast
import Derived.Test.YtaddjeoncbmohaaDoorWTab
import Derived.Test.YtaddjeoncbmohaaDoorWFour
import Derived.Test.YtaddjeoncbmohaaDoorWQPut
import Derived.Test.YtaddjeoncbmohaaDoorWApart
import Derived.Test.YtaddjeoncbmohaaDoorWArr
import Derived.Test.YtaddjeoncbmohaaDoorWZeros
import Derived.Test.YtaddjeoncbmohaaDoorWFoot
import Derived.Test.YtaddjeoncbmohaaDoorWKept
import Derived.Test.YtaddjeoncbmohaaDoorWShare
import Derived.Test.YtaddjeoncbmohaaDoorWN
import Derived.Test.YtaddjeoncbmohaaDoorWFootNe
import Derived.Test.YtaddjeoncbmohaaDoorWAt
import Derived.Test.YtaddjeoncbmohaaDoorWEqStruct
import Derived.Test.YtaddjeoncbmohaaDoorWRepsOne
import Derived.Test.YtaddjeoncbmohaaDoorWInv
import Derived.Test.YtaddjeoncbmohaaDoorWInvWords
import Derived.Test.YtaddjeoncbmohaaDoorWGuard
import Derived.Test.YtaddjeoncbmohaaDoorWNEv
import Derived.Test.YtaddjeoncbmohaaDoorWMore
namespace Go.Proofs.YtaddjeoncbmohaaDoor.MFnExactReadNums
open Go.RowKit Go.Proofs.YtaddjeoncbmohaaDoorW.PrintWords Go.Proofs.YtaddjeoncbmohaaDoorW.PrintLast Go.Proofs.YtaddjeoncbmohaaDoorW.PrintMore
attribute [local go_sem] max2_int min2_int max_two min_two max_three min_three max_four min_four   -- for this text's walks alone
set_option linter.unusedVariables false
set_option linter.unusedSimpArgs false



def errW : Option Int → Value
  | none => .nilIface
  | some c => .iface 0 (.int .i64 c)
theorem errW_none : errW none = .nilIface := rfl
theorem errW_some (c : Int) : errW (some c) = .iface 0 (.int .i64 c) := rfl

theorem info3 : (Tryd.prog.info? 3).map (fun i => (i.zero, i.size, i.bytes)) = some (some (.int .i64 0), 1, 8) := by kernel_rfl
theorem info5 : (Tryd.prog.info? 5).map (fun i => (i.zero, i.size, i.bytes)) = some (some (.int .u8 0), 1, 1) := by kernel_rfl
-- the values' own types

end Go.Proofs.YtaddjeoncbmohaaDoor.MFnExactReadNums
