/- Made by a program of this session (out of the kit's print, with hand-made contracts): what each Go function that the law reaches computes, and that the machine's call does so. -/
import Derived.Test.YtpkffapjplebgaaMFnExactDemandsInx0
import Derived.Test.YtpkffapjplebgaaMFnExactDemandsInx1
import Derived.Test.YtpkffapjplebgaaMFnExactDemandsInx2
import Derived.Test.YtpkffapjplebgaaMFnExactDemandsInx3
import Derived.Test.YtpkffapjplebgaaMFnExactDemandsInx4
namespace Go.Proofs.Ytpkffapjplebgaa.MFnExactDemandsIn
open Go.RowKit Go.Proofs.YtpkffapjplebgaaW.PrintWords Go.Proofs.YtpkffapjplebgaaW.PrintLast Go.Proofs.YtpkffapjplebgaaW.PrintMore
attribute [local go_sem] max2_int min2_int max_two min_two max_three min_three max_four min_four   -- for this text's walks alone
set_option linter.unusedVariables false
set_option linter.unusedSimpArgs false

end Go.Proofs.Ytpkffapjplebgaa.MFnExactDemandsIn
