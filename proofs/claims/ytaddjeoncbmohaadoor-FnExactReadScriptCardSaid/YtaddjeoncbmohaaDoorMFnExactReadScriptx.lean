/- Made by a program of this session (out of the kit's print, with hand-made contracts): what each Go function that the law reaches computes, and that the machine's call does so. -/
import Derived.Test.YtaddjeoncbmohaaDoorMFnExactReadScriptx0
import Derived.Test.YtaddjeoncbmohaaDoorMFnExactReadScriptx1
import Derived.Test.YtaddjeoncbmohaaDoorMFnExactReadScriptx2
import Derived.Test.YtaddjeoncbmohaaDoorMFnExactReadScriptx3
import Derived.Test.YtaddjeoncbmohaaDoorMFnExactReadScriptx4
import Derived.Test.YtaddjeoncbmohaaDoorMFnExactReadScriptx5
import Derived.Test.YtaddjeoncbmohaaDoorMFnExactReadScriptx6
import Derived.Test.YtaddjeoncbmohaaDoorMFnExactReadScriptx7
import Derived.Test.YtaddjeoncbmohaaDoorMFnExactReadScriptx8
import Derived.Test.YtaddjeoncbmohaaDoorMFnExactReadScriptx9
import Derived.Test.YtaddjeoncbmohaaDoorMFnExactReadScriptx10
import Derived.Test.YtaddjeoncbmohaaDoorMFnExactReadScriptx11
import Derived.Test.YtaddjeoncbmohaaDoorMFnExactReadScriptx12
import Derived.Test.YtaddjeoncbmohaaDoorMFnExactReadScriptx13
import Derived.Test.YtaddjeoncbmohaaDoorMFnExactReadScriptx14
import Derived.Test.YtaddjeoncbmohaaDoorMFnExactReadScriptx15
import Derived.Test.YtaddjeoncbmohaaDoorMFnExactReadScriptx16
namespace Go.Proofs.YtaddjeoncbmohaaDoor.MFnExactReadScript
open Go.RowKit Go.Proofs.YtaddjeoncbmohaaDoorW.PrintWords Go.Proofs.YtaddjeoncbmohaaDoorW.PrintLast Go.Proofs.YtaddjeoncbmohaaDoorW.PrintMore
attribute [local go_sem] max2_int min2_int max_two min_two max_three min_three max_four min_four   -- for this text's walks alone
set_option linter.unusedVariables false
set_option linter.unusedSimpArgs false

end Go.Proofs.YtaddjeoncbmohaaDoor.MFnExactReadScript
