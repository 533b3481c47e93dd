/- Made by a program of this session (out of the kit's print, with hand-made contracts): what each Go function that the law reaches computes, and that the machine's call does so. -/
import Derived.Test.YtomchkdbhcakoaaDoorMFnExactReadCmdx0
import Derived.Test.YtomchkdbhcakoaaDoorMFnExactReadCmdx1
import Derived.Test.YtomchkdbhcakoaaDoorMFnExactReadCmdx2
import Derived.Test.YtomchkdbhcakoaaDoorMFnExactReadCmdx3
import Derived.Test.YtomchkdbhcakoaaDoorMFnExactReadCmdx4
import Derived.Test.YtomchkdbhcakoaaDoorMFnExactReadCmdx5
import Derived.Test.YtomchkdbhcakoaaDoorMFnExactReadCmdx6
import Derived.Test.YtomchkdbhcakoaaDoorMFnExactReadCmdx7
import Derived.Test.YtomchkdbhcakoaaDoorMFnExactReadCmdx8
import Derived.Test.YtomchkdbhcakoaaDoorMFnExactReadCmdx9
namespace Go.Proofs.YtomchkdbhcakoaaDoor.MFnExactReadCmd
open Go.RowKit Go.Proofs.YtomchkdbhcakoaaDoorW.PrintWords Go.Proofs.YtomchkdbhcakoaaDoorW.PrintLast Go.Proofs.YtomchkdbhcakoaaDoorW.PrintMore
attribute [local go_sem] max2_int min2_int max_two min_two max_three min_three max_four min_four   -- for this text's walks alone
set_option linter.unusedVariables false
set_option linter.unusedSimpArgs false

end Go.Proofs.YtomchkdbhcakoaaDoor.MFnExactReadCmd
