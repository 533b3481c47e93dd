/- Made by a program of this session (out of the kit's print, with hand-made contracts): what each Go function that the law reaches computes, and that the machine's call does so. -/
import Derived.Test.YtaddjeoncbmohaaDoorMFnCmdsx0
import Derived.Test.YtaddjeoncbmohaaDoorMFnCmdsx1
import Derived.Test.YtaddjeoncbmohaaDoorMFnCmdsx2
import Derived.Test.YtaddjeoncbmohaaDoorMFnCmdsx3
import Derived.Test.YtaddjeoncbmohaaDoorMFnCmdsx4
import Derived.Test.YtaddjeoncbmohaaDoorMFnCmdsx5
import Derived.Test.YtaddjeoncbmohaaDoorMFnCmdsx6
import Derived.Test.YtaddjeoncbmohaaDoorMFnCmdsx7
import Derived.Test.YtaddjeoncbmohaaDoorMFnCmdsx8
import Derived.Test.YtaddjeoncbmohaaDoorMFnCmdsx9
import Derived.Test.YtaddjeoncbmohaaDoorMFnCmdsx10
import Derived.Test.YtaddjeoncbmohaaDoorMFnCmdsx11
import Derived.Test.YtaddjeoncbmohaaDoorMFnCmdsx12
namespace Go.Proofs.YtaddjeoncbmohaaDoor.MFnCmds
open Go.RowKit Go.Proofs.YtaddjeoncbmohaaDoorW.PrintWords Go.Proofs.YtaddjeoncbmohaaDoorW.PrintLast Go.Proofs.YtaddjeoncbmohaaDoorW.PrintMore
attribute [local go_sem] max2_int min2_int max_two min_two max_three min_three max_four min_four   -- for this text's walks alone
set_option linter.unusedVariables false
set_option linter.unusedSimpArgs false

end Go.Proofs.YtaddjeoncbmohaaDoor.MFnCmds
