/- Made by a program of this session (out of the kit's print, with hand-made contracts): what each Go function that the law reaches computes, and that the machine's call does so. -/
import Derived.Test.YtpkffapjplebgaaDoorMFnExactCmdTextx0
import Derived.Test.YtpkffapjplebgaaDoorMFnExactCmdTextx1
import Derived.Test.YtpkffapjplebgaaDoorMFnExactCmdTextx2
import Derived.Test.YtpkffapjplebgaaDoorMFnExactCmdTextx3
import Derived.Test.YtpkffapjplebgaaDoorMFnExactCmdTextx4
import Derived.Test.YtpkffapjplebgaaDoorMFnExactCmdTextx5
namespace Go.Proofs.YtpkffapjplebgaaDoor.MFnExactCmdText
open Go.RowKit Go.Proofs.YtpkffapjplebgaaDoorW.PrintWords Go.Proofs.YtpkffapjplebgaaDoorW.PrintLast Go.Proofs.YtpkffapjplebgaaDoorW.PrintMore
attribute [local go_sem] max2_int min2_int max_two min_two max_three min_three max_four min_four   -- for this text's walks alone
set_option linter.unusedVariables false
set_option linter.unusedSimpArgs false

end Go.Proofs.YtpkffapjplebgaaDoor.MFnExactCmdText
