/- Made by a program of this session (out of the kit's print, with hand-made contracts): what each Go function that the law reaches computes, and that the machine's call does so. -/
import Derived.Test.YtaddjeoncbmohaaDoorMFnExactReadNumsx0
import Derived.Test.YtaddjeoncbmohaaDoorMFnExactReadNumsx1
import Derived.Test.YtaddjeoncbmohaaDoorMFnExactReadNumsx2
import Derived.Test.YtaddjeoncbmohaaDoorMFnExactReadNumsx3
import Derived.Test.YtaddjeoncbmohaaDoorMFnExactReadNumsx4
import Derived.Test.YtaddjeoncbmohaaDoorMFnExactReadNumsx5
import Derived.Test.YtaddjeoncbmohaaDoorMFnExactReadNumsx6
import Derived.Test.YtaddjeoncbmohaaDoorMFnExactReadNumsx7
namespace Go.Proofs.YtaddjeoncbmohaaDoor.MFnExactReadNums
open Go.RowKit Go.Proofs.YtaddjeoncbmohaaDoorW.PrintWords Go.Proofs.YtaddjeoncbmohaaDoorW.PrintLast Go.Proofs.YtaddjeoncbmohaaDoorW.PrintMore
attribute [local go_sem] max2_int min2_int max_two min_two max_three min_three max_four min_four   -- for this text's walks alone
set_option linter.unusedVariables false
set_option linter.unusedSimpArgs false

end Go.Proofs.YtaddjeoncbmohaaDoor.MFnExactReadNums
