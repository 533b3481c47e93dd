/- Made by a program of this session (out of the kit's print, with hand-made contracts): what each Go function that the law reaches computes, and that the machine's call does so. -/
import Derived.Test.YtomchkdbhcakoaaDoorMFnExactReplyTextx0
import Derived.Test.YtomchkdbhcakoaaDoorMFnExactReplyTextx1
import Derived.Test.YtomchkdbhcakoaaDoorMFnExactReplyTextx2
import Derived.Test.YtomchkdbhcakoaaDoorMFnExactReplyTextx3
import Derived.Test.YtomchkdbhcakoaaDoorMFnExactReplyTextx4
import Derived.Test.YtomchkdbhcakoaaDoorMFnExactReplyTextx5
import Derived.Test.YtomchkdbhcakoaaDoorMFnExactReplyTextx6
namespace Go.Proofs.YtomchkdbhcakoaaDoor.MFnExactReplyText
open Go.RowKit Go.Proofs.YtomchkdbhcakoaaDoorW.PrintWords Go.Proofs.YtomchkdbhcakoaaDoorW.PrintLast Go.Proofs.YtomchkdbhcakoaaDoorW.PrintMore
attribute [local go_sem] max2_int min2_int max_two min_two max_three min_three max_four min_four   -- for this text's walks alone
set_option linter.unusedVariables false
set_option linter.unusedSimpArgs false

end Go.Proofs.YtomchkdbhcakoaaDoor.MFnExactReplyText
